/- (*heap.Heap).Unify at the two terms of bound. -/
import Derived.Deep.RegionHeld3
import Derived.IntWalk
import Derived.Test.YtkfnpcilanheiaaGreatJo44
set_option linter.unusedVariables false
set_option linter.unusedSimpArgs false
set_option maxRecDepth 100000
namespace Go.Proofs.YtkfnpcilanheiaaGreat
open Go.RowKit NumB
set_option maxHeartbeats 6400000 in
theorem unifyH_any (B h G c : Nat) (s0 : ByteArray) (hs0 : s0.size ≤ 1000) (xv : Int) (xn : Bool) (xA : Option Addr) (xa xc : Nat) (xB : Option Addr) (xd xe xb xo xq : Nat) (yv : Int) (yn : Bool) (yA : Option Addr) (ya yc : Nat) (yB : Option Addr) (yd ye yb yo yq : Nat) (xarr yarr : Array Value) (dk dv : Int) (ds : ByteArray) (dn : Bool) (dA : Option Addr) (da dc : Nat) (dB : Option Addr) (dd de : Nat) (dX : Option Addr) (dl dq : Nat) (ks : ByteArray) (kn : Bool) (kA : Option Addr) (ka kc : Nat) (kB : Option Addr) (kd ke : Nat) (kX : Option Addr) (kl kq : Nat) (us : ByteArray) (un : Bool) (uA : Option Addr) (ua uc : Nat) (uB : Option Addr) (ud ue : Nat) (uX : Option Addr) (ul uq : Nat) (js : ByteArray) (jn : Bool) (jA : Option Addr) (ja jc : Nat) (jB : Option Addr) (jd je : Nat) (jX : Option Addr) (jl jq : Nat) (hd : dk ≠ 1) (hxv : i64ok xv) (hyv : i64ok yv) (hxr : LeafRow xarr xo 2) (hyr : LeafRow yarr yo 2)
    (hx0 : ∀ q, q < 7 → xarr[xo + 0 * 7 + q]? = [(Value.int .i64 1), (Value.int .i64 0), (Value.string us), (Value.bool un), (Value.slice uA ua uc), (Value.slice uB ud ue), (Value.slice uX ul uq)][q]?) (hx1 : ∀ q, q < 7 → xarr[xo + 1 * 7 + q]? = [(Value.int .i64 dk), (Value.int .i64 dv), (Value.string ds), (Value.bool dn), (Value.slice dA da dc), (Value.slice dB dd de), (Value.slice dX dl dq)][q]?) (hy0 : ∀ q, q < 7 → yarr[yo + 0 * 7 + q]? = [(Value.int .i64 1), (Value.int .i64 1), (Value.string js), (Value.bool jn), (Value.slice jA ja jc), (Value.slice jB jd je), (Value.slice jX jl jq)][q]?) (hy1 : ∀ q, q < 7 → yarr[yo + 1 * 7 + q]? = [(Value.int .i64 1), (Value.int .i64 0), (Value.string ks), (Value.bool kn), (Value.slice kA ka kc), (Value.slice kB kd ke), (Value.slice kX kl kq)][q]?)
    (w : World) (hB : B ≤ w.heap.size) (hx : Blk w xb 27 xarr) (hy : Blk w yb 27 yarr) (hxy : xb ≠ yb) (hS : HS w B h G c (.slice none 0 0) (zc ++ zc) 0 []) :
    Calls Tryz.prog 68 #[.pointer (some ⟨h, 0, none⟩), .agg #[.int .i64 5, .int .i64 xv, .string s0, .bool xn, .slice xA xa xc, .slice xB xd xe, .slice (some ⟨xb, xo, none⟩) 2 xq], .agg #[.int .i64 5, .int .i64 yv, .string s0, .bool yn, .slice yA ya yc, .slice yB yd ye, .slice (some ⟨yb, yo, none⟩) 2 yq], .bool false] w fun e w' => e = .returned (.tuple #[.slice none 0 0, .bool true]) ∧ (∃ tr m ys, HS w' B h G c tr (xs2 dk dv ds dn (.slice dA da dc) (.slice dB dd de) (.slice dX dl dq)) m ys) ∧ FrT [some 141, some 144, some 196, some 152, some 147, none] w w' ∧ Below B w w' := by
  have HB := Lib.hid hB
  have hbw : Below w.heap.size w ((((w.alloc (.cells #[.int .i64 5, .int .i64 xv, .string s0, .bool xn, .slice xA xa xc, .slice xB xd xe, .slice (some ⟨xb, xo, none⟩) 2 xq] 27)).alloc (.cells #[.int .i64 5, .int .i64 yv, .string s0, .bool yn, .slice yA ya yc, .slice yB yd ye, .slice (some ⟨yb, yo, none⟩) 2 yq] 27)).alloc (.cells #[.int .i64 5, .int .i64 xv, .string s0, .bool xn, .slice xA xa xc, .slice xB xd xe, .slice (some ⟨xb, xo, none⟩) 2 xq, .int .i64 5, .int .i64 yv, .string s0, .bool yn, .slice yA ya yc, .slice yB yd ye, .slice (some ⟨yb, yo, none⟩) 2 yq] 147)).alloc (.cells #[.pointer (some ⟨h, 0, none⟩), .bool false, .pointer none, .map none, .slice none 0 0, .slice (some ⟨w.heap.size + 1 + 1, 0, none⟩) 1 1] 152)) := ((below_pair w _ _).alloc (by simp; omega) _).alloc (by simp; omega) _
  have hr0 : Blk ((((w.alloc (.cells #[.int .i64 5, .int .i64 xv, .string s0, .bool xn, .slice xA xa xc, .slice xB xd xe, .slice (some ⟨xb, xo, none⟩) 2 xq] 27)).alloc (.cells #[.int .i64 5, .int .i64 yv, .string s0, .bool yn, .slice yA ya yc, .slice yB yd ye, .slice (some ⟨yb, yo, none⟩) 2 yq] 27)).alloc (.cells #[.int .i64 5, .int .i64 xv, .string s0, .bool xn, .slice xA xa xc, .slice xB xd xe, .slice (some ⟨xb, xo, none⟩) 2 xq, .int .i64 5, .int .i64 yv, .string s0, .bool yn, .slice yA ya yc, .slice yB yd ye, .slice (some ⟨yb, yo, none⟩) 2 yq] 147)).alloc (.cells #[.pointer (some ⟨h, 0, none⟩), .bool false, .pointer none, .map none, .slice none 0 0, .slice (some ⟨w.heap.size + 1 + 1, 0, none⟩) 1 1] 152)) (w.heap.size + 1 + 1) 147 #[.int .i64 5, .int .i64 xv, .string s0, .bool xn, .slice xA xa xc, .slice xB xd xe, .slice (some ⟨xb, xo, none⟩) 2 xq, .int .i64 5, .int .i64 yv, .string s0, .bool yn, .slice yA ya yc, .slice yB yd ye, .slice (some ⟨yb, yo, none⟩) 2 yq] := by
    have := (Blk.new ((w.alloc (.cells #[.int .i64 5, .int .i64 xv, .string s0, .bool xn, .slice xA xa xc, .slice xB xd xe, .slice (some ⟨xb, xo, none⟩) 2 xq] 27)).alloc (.cells #[.int .i64 5, .int .i64 yv, .string s0, .bool yn, .slice yA ya yc, .slice yB yd ye, .slice (some ⟨yb, yo, none⟩) 2 yq] 27)) 147 #[.int .i64 5, .int .i64 xv, .string s0, .bool xn, .slice xA xa xc, .slice xB xd xe, .slice (some ⟨xb, xo, none⟩) 2 xq, .int .i64 5, .int .i64 yv, .string s0, .bool yn, .slice yA ya yc, .slice yB yd ye, .slice (some ⟨yb, yo, none⟩) 2 yq]).alloc (.cells #[.pointer (some ⟨h, 0, none⟩), .bool false, .pointer none, .map none, .slice none 0 0, .slice (some ⟨w.heap.size + 1 + 1, 0, none⟩) 1 1] 152)
    rw [show ((w.alloc (.cells #[.int .i64 5, .int .i64 xv, .string s0, .bool xn, .slice xA xa xc, .slice xB xd xe, .slice (some ⟨xb, xo, none⟩) 2 xq] 27)).alloc (.cells #[.int .i64 5, .int .i64 yv, .string s0, .bool yn, .slice yA ya yc, .slice yB yd ye, .slice (some ⟨yb, yo, none⟩) 2 yq] 27)).heap.size = w.heap.size + 1 + 1 by simp] at this
    exact this
  have hrow : ((((w.alloc (.cells #[.int .i64 5, .int .i64 xv, .string s0, .bool xn, .slice xA xa xc, .slice xB xd xe, .slice (some ⟨xb, xo, none⟩) 2 xq] 27)).alloc (.cells #[.int .i64 5, .int .i64 yv, .string s0, .bool yn, .slice yA ya yc, .slice yB yd ye, .slice (some ⟨yb, yo, none⟩) 2 yq] 27)).alloc (.cells #[.int .i64 5, .int .i64 xv, .string s0, .bool xn, .slice xA xa xc, .slice xB xd xe, .slice (some ⟨xb, xo, none⟩) 2 xq, .int .i64 5, .int .i64 yv, .string s0, .bool yn, .slice yA ya yc, .slice yB yd ye, .slice (some ⟨yb, yo, none⟩) 2 yq] 147)).alloc (.cells #[.pointer (some ⟨h, 0, none⟩), .bool false, .pointer none, .map none, .slice none 0 0, .slice (some ⟨w.heap.size + 1 + 1, 0, none⟩) 1 1] 152)).ownsRow w.heap.size 147 14 (.slice (some ⟨w.heap.size + 1 + 1, 0, none⟩) 1 1) 1 [(Value.int .i64 5), (Value.int .i64 xv), (Value.string s0), (Value.bool xn), (Value.slice xA xa xc), (Value.slice xB xd xe), (Value.slice (some ⟨xb, xo, none⟩) 2 xq), (Value.int .i64 5), (Value.int .i64 yv), (Value.string s0), (Value.bool yn), (Value.slice yA ya yc), (Value.slice yB yd ye), (Value.slice (some ⟨yb, yo, none⟩) 2 yq)] :=
    ⟨rfl, .inr ⟨_, 1, _, rfl, by omega, hr0, Nat.le_refl _, by decide, rfl, rfl⟩⟩
  have hu0 : Blk ((((w.alloc (.cells #[.int .i64 5, .int .i64 xv, .string s0, .bool xn, .slice xA xa xc, .slice xB xd xe, .slice (some ⟨xb, xo, none⟩) 2 xq] 27)).alloc (.cells #[.int .i64 5, .int .i64 yv, .string s0, .bool yn, .slice yA ya yc, .slice yB yd ye, .slice (some ⟨yb, yo, none⟩) 2 yq] 27)).alloc (.cells #[.int .i64 5, .int .i64 xv, .string s0, .bool xn, .slice xA xa xc, .slice xB xd xe, .slice (some ⟨xb, xo, none⟩) 2 xq, .int .i64 5, .int .i64 yv, .string s0, .bool yn, .slice yA ya yc, .slice yB yd ye, .slice (some ⟨yb, yo, none⟩) 2 yq] 147)).alloc (.cells #[.pointer (some ⟨h, 0, none⟩), .bool false, .pointer none, .map none, .slice none 0 0, .slice (some ⟨w.heap.size + 1 + 1, 0, none⟩) 1 1] 152)) (w.heap.size + 1 + 1 + 1) 152 #[.pointer (some ⟨h, 0, none⟩), .bool false, .pointer none, .map none, .slice none 0 0, .slice (some ⟨w.heap.size + 1 + 1, 0, none⟩) 1 1] := by
    have := Blk.new (((w.alloc (.cells #[.int .i64 5, .int .i64 xv, .string s0, .bool xn, .slice xA xa xc, .slice xB xd xe, .slice (some ⟨xb, xo, none⟩) 2 xq] 27)).alloc (.cells #[.int .i64 5, .int .i64 yv, .string s0, .bool yn, .slice yA ya yc, .slice yB yd ye, .slice (some ⟨yb, yo, none⟩) 2 yq] 27)).alloc (.cells #[.int .i64 5, .int .i64 xv, .string s0, .bool xn, .slice xA xa xc, .slice xB xd xe, .slice (some ⟨xb, xo, none⟩) 2 xq, .int .i64 5, .int .i64 yv, .string s0, .bool yn, .slice yA ya yc, .slice yB yd ye, .slice (some ⟨yb, yo, none⟩) 2 yq] 147)) 152 #[.pointer (some ⟨h, 0, none⟩), .bool false, .pointer none, .map none, .slice none 0 0, .slice (some ⟨w.heap.size + 1 + 1, 0, none⟩) 1 1]
    rw [show (((w.alloc (.cells #[.int .i64 5, .int .i64 xv, .string s0, .bool xn, .slice xA xa xc, .slice xB xd xe, .slice (some ⟨xb, xo, none⟩) 2 xq] 27)).alloc (.cells #[.int .i64 5, .int .i64 yv, .string s0, .bool yn, .slice yA ya yc, .slice yB yd ye, .slice (some ⟨yb, yo, none⟩) 2 yq] 27)).alloc (.cells #[.int .i64 5, .int .i64 xv, .string s0, .bool xn, .slice xA xa xc, .slice xB xd xe, .slice (some ⟨xb, xo, none⟩) 2 xq, .int .i64 5, .int .i64 yv, .string s0, .bool yn, .slice yA ya yc, .slice yB yd ye, .slice (some ⟨yb, yo, none⟩) 2 yq] 147)).heap.size = w.heap.size + 1 + 1 + 1 by simp] at this
    exact this
  have HL0 : Hid (ULive B w.heap.size h G c (w.heap.size + 1 + 1 + 1) (xs2 dk dv ds dn (.slice dA da dc) (.slice dB dd de) (.slice dX dl dq)) 3 ((((w.alloc (.cells #[.int .i64 5, .int .i64 xv, .string s0, .bool xn, .slice xA xa xc, .slice xB xd xe, .slice (some ⟨xb, xo, none⟩) 2 xq] 27)).alloc (.cells #[.int .i64 5, .int .i64 yv, .string s0, .bool yn, .slice yA ya yc, .slice yB yd ye, .slice (some ⟨yb, yo, none⟩) 2 yq] 27)).alloc (.cells #[.int .i64 5, .int .i64 xv, .string s0, .bool xn, .slice xA xa xc, .slice xB xd xe, .slice (some ⟨xb, xo, none⟩) 2 xq, .int .i64 5, .int .i64 yv, .string s0, .bool yn, .slice yA ya yc, .slice yB yd ye, .slice (some ⟨yb, yo, none⟩) 2 yq] 147)).alloc (.cells #[.pointer (some ⟨h, 0, none⟩), .bool false, .pointer none, .map none, .slice none 0 0, .slice (some ⟨w.heap.size + 1 + 1, 0, none⟩) 1 1] 152))) :=
    live3 B w.heap.size h G c (w.heap.size + 1 + 1 + 1) hB (by omega) s0 hs0 xv xn xA xa xc xB xd xe xb xo xq yv yn yA ya yc yB yd ye yb yo yq xarr yarr dk dv ds dn dA da dc dB dd de dX dl dq ks kn kA ka kc kB kd ke kX kl kq us un uA ua uc uB ud ue uX ul uq js jn jA ja jc jB jd je jX jl jq hd hxv hyv hxr hyr hx0 hx1 hy0 hy1 ((((w.alloc (.cells #[.int .i64 5, .int .i64 xv, .string s0, .bool xn, .slice xA xa xc, .slice xB xd xe, .slice (some ⟨xb, xo, none⟩) 2 xq] 27)).alloc (.cells #[.int .i64 5, .int .i64 yv, .string s0, .bool yn, .slice yA ya yc, .slice yB yd ye, .slice (some ⟨yb, yo, none⟩) 2 yq] 27)).alloc (.cells #[.int .i64 5, .int .i64 xv, .string s0, .bool xn, .slice xA xa xc, .slice xB xd xe, .slice (some ⟨xb, xo, none⟩) 2 xq, .int .i64 5, .int .i64 yv, .string s0, .bool yn, .slice yA ya yc, .slice yB yd ye, .slice (some ⟨yb, yo, none⟩) 2 yq] 147)).alloc (.cells #[.pointer (some ⟨h, 0, none⟩), .bool false, .pointer none, .map none, .slice none 0 0, .slice (some ⟨w.heap.size + 1 + 1, 0, none⟩) 1 1] 152)) _ _ 0 (by omega) [] (hx.to hbw) (hy.to hbw) hxy hu0 hrow (hS.below hbw)
  have HF0 : Hid (FrT [some 141, some 144, some 196, some 152, some 147, none] w ((((w.alloc (.cells #[.int .i64 5, .int .i64 xv, .string s0, .bool xn, .slice xA xa xc, .slice xB xd xe, .slice (some ⟨xb, xo, none⟩) 2 xq] 27)).alloc (.cells #[.int .i64 5, .int .i64 yv, .string s0, .bool yn, .slice yA ya yc, .slice yB yd ye, .slice (some ⟨yb, yo, none⟩) 2 yq] 27)).alloc (.cells #[.int .i64 5, .int .i64 xv, .string s0, .bool xn, .slice xA xa xc, .slice xB xd xe, .slice (some ⟨xb, xo, none⟩) 2 xq, .int .i64 5, .int .i64 yv, .string s0, .bool yn, .slice yA ya yc, .slice yB yd ye, .slice (some ⟨yb, yo, none⟩) 2 yq] 147)).alloc (.cells #[.pointer (some ⟨h, 0, none⟩), .bool false, .pointer none, .map none, .slice none 0 0, .slice (some ⟨w.heap.size + 1 + 1, 0, none⟩) 1 1] 152)) ∧ Below B w ((((w.alloc (.cells #[.int .i64 5, .int .i64 xv, .string s0, .bool xn, .slice xA xa xc, .slice xB xd xe, .slice (some ⟨xb, xo, none⟩) 2 xq] 27)).alloc (.cells #[.int .i64 5, .int .i64 yv, .string s0, .bool yn, .slice yA ya yc, .slice yB yd ye, .slice (some ⟨yb, yo, none⟩) 2 yq] 27)).alloc (.cells #[.int .i64 5, .int .i64 xv, .string s0, .bool xn, .slice xA xa xc, .slice xB xd xe, .slice (some ⟨xb, xo, none⟩) 2 xq, .int .i64 5, .int .i64 yv, .string s0, .bool yn, .slice yA ya yc, .slice yB yd ye, .slice (some ⟨yb, yo, none⟩) 2 yq] 147)).alloc (.cells #[.pointer (some ⟨h, 0, none⟩), .bool false, .pointer none, .map none, .slice none 0 0, .slice (some ⟨w.heap.size + 1 + 1, 0, none⟩) 1 1] 152))) := ⟨FrT.of_below hbw, hbw.mono hB⟩
  have d1 := (hS.below hbw).blk.cell 1
  simp only [List.getElem?_toArray, List.getElem?_cons_zero, List.getElem?_cons_succ] at d1
  have HSZ : Hid (w.heap.size ≤ ((((w.alloc (.cells #[.int .i64 5, .int .i64 xv, .string s0, .bool xn, .slice xA xa xc, .slice xB xd xe, .slice (some ⟨xb, xo, none⟩) 2 xq] 27)).alloc (.cells #[.int .i64 5, .int .i64 yv, .string s0, .bool yn, .slice yA ya yc, .slice yB yd ye, .slice (some ⟨yb, yo, none⟩) 2 yq] 27)).alloc (.cells #[.int .i64 5, .int .i64 xv, .string s0, .bool xn, .slice xA xa xc, .slice xB xd xe, .slice (some ⟨xb, xo, none⟩) 2 xq, .int .i64 5, .int .i64 yv, .string s0, .bool yn, .slice yA ya yc, .slice yB yd ye, .slice (some ⟨yb, yo, none⟩) 2 yq] 147)).alloc (.cells #[.pointer (some ⟨h, 0, none⟩), .bool false, .pointer none, .map none, .slice none 0 0, .slice (some ⟨w.heap.size + 1 + 1, 0, none⟩) 1 1] 152)).heap.size) := hbw.size
  clear hS hB hx hy hxy hbw hr0 hrow hu0 hd hxv hyv hxr hyr hx0 hx1 hy0 hy1 hs0
  go_enter Tryz.func68, Tryz.ntmps68
  go_wp2_with fail
  clear d1
  generalize ((((w.alloc (.cells #[.int .i64 5, .int .i64 xv, .string s0, .bool xn, .slice xA xa xc, .slice xB xd xe, .slice (some ⟨xb, xo, none⟩) 2 xq] 27)).alloc (.cells #[.int .i64 5, .int .i64 yv, .string s0, .bool yn, .slice yA ya yc, .slice yB yd ye, .slice (some ⟨yb, yo, none⟩) 2 yq] 27)).alloc (.cells #[.int .i64 5, .int .i64 xv, .string s0, .bool xn, .slice xA xa xc, .slice xB xd xe, .slice (some ⟨xb, xo, none⟩) 2 xq, .int .i64 5, .int .i64 yv, .string s0, .bool yn, .slice yA ya yc, .slice yB yd ye, .slice (some ⟨yb, yo, none⟩) 2 yq] 147)).alloc (.cells #[.pointer (some ⟨h, 0, none⟩), .bool false, .pointer none, .map none, .slice none 0 0, .slice (some ⟨w.heap.size + 1 + 1, 0, none⟩) 1 1] 152)) = wi at HL0 HF0 HSZ ⊢
  generalize hU0 : (w.heap.size + 1 + 1 + 1) = U at HL0 ⊢
  have HBU : Hid (w.heap.size ≤ U) := by show _ ≤ _; omega
  clear hU0
  generalize hwz : w.heap.size = Bp at HL0 HSZ HBU ⊢
  have HBP : Hid (B ≤ Bp) := by rw [← hwz]; exact HB.out
  clear hwz HB
  go_loopg [12] 3 (fun gk s12 wr => Hid (ULive B Bp h G c U (xs2 dk dv ds dn (.slice dA da dc) (.slice dB dd de) (.slice dX dl dq)) gk wr) ∧ Hid (FrT [some 141, some 144, some 196, some 152, some 147, none] w wr ∧ Below B w wr) ∧ Hid (Bp ≤ wr.heap.size))
  case atStart => exact ⟨HL0, HF0, HSZ⟩
  case round =>
    clear HL0 HF0 HSZ
    obtain ⟨HL, HF, HZ⟩ := hrel
    cases gk with
    | zero =>
      obtain ⟨N, M, st, tr, m, ys, hu, hrow, hs⟩ := HL.out
      obtain ⟨A, cap, rfl⟩ : ∃ A cap, st = .slice A 0 cap := by
        rcases hrow.2 with ⟨h, _⟩ | ⟨g, cap, _, h, _⟩
        · exact ⟨_, _, h⟩
        · exact ⟨_, _, h⟩
      have HU : Hid (Blk wr U 152 #[.pointer (some ⟨h, 0, none⟩), .bool false, N, M, .slice none 0 0, .slice A 0 cap]) := hu
      have HSS := Lib.hid hs
      have u5 := HU.out.cell 5
      simp only [List.getElem?_toArray, List.getElem?_cons_zero, List.getElem?_cons_succ] at u5
      clear HL hu hrow hs
      go_wp2_with fail
      refine (forget_any h _ 2 c tr wr HSS.out.blk).mono ?_
      rintro e w1 ⟨rfl, hw1⟩
      have hf1 : FrT [some 141] wr w1 := by rw [hw1]; exact (FrT.refl _ _).setCell (p := ⟨h, 1, none⟩) HSS.out.blk (by decide) _
      have HU1 := Lib.hid (HU.out.frT hf1 (by decide))
      have HS1 : Hid (HS w1 B h G c (.slice none 0 0) (xs2 dk dv ds dn (.slice dA da dc) (.slice dB dd de) (.slice dX dl dq)) 0 []) := by
        refine ⟨?_, HSS.out.le, row_frT HSS.out.row hf1 (by decide), World.ownsRow_nil _ _ _ _⟩
        rw [hw1]
        have := HSS.out.blk.set_ 1 (.slice none 0 0)
        simpa using this
      have HF1 : Hid (FrT [some 141, some 144, some 196, some 152, some 147, none] w w1 ∧ Below B w w1) := by
        refine ⟨HF.out.1.trans (hf1.mono (by decide)), ?_⟩
        rw [hw1]
        exact HF.out.2.setCell (p := ⟨h, 1, none⟩) HSS.out.le _
      have v4 := HU1.out.cell 4
      simp only [List.getElem?_toArray, List.getElem?_cons_zero, List.getElem?_cons_succ] at v4
      clear hw1 hf1 u5
      go_wp2_with fail
      go_ret2
      exact ⟨rfl, ⟨_, _, _, HS1.out⟩, HF1.out.1, HF1.out.2⟩
    | succ j =>
      obtain ⟨fk, fv, fs, fn, fA, fa, fc, fB, fd, fe, fX, fl, fq, ok, ov, os, on, oA, oa, oc, oB, od, oe, oX, ol, oq, rk, rv, rs, rn, rA, ra, rc, rB, rd, re, rX, rl, rq, pk, pv, ps, pn, pA, pa, pc, pB, pd, pe, pX, pl, pq, na, nb, st, n, zs, xs, tr, m, ys, N, M, hu, hrow, hn, hs, hda, hdb, hstep⟩ := HL.out
      generalize hq1 : n + 1 = n1 at hrow
      obtain ⟨gb, cap, rfl⟩ := Joins.ownsRow_form hrow (by omega)
      have HQ1 := Lib.hid hq1
      have HU : Hid (Blk wr U 152 #[.pointer (some ⟨h, 0, none⟩), .bool false, N, M, .slice none 0 0, .slice (some ⟨gb, 0, none⟩) n1 cap]) := hu
      have HSS := Lib.hid hs
      have HROW := Lib.hid hrow
      have HDA := Lib.hid hda
      have HDB := Lib.hid hdb
      have HST := Lib.hid hstep
      have hcl := row_last hq1 hrow rfl
      have HCL : Hid (∀ W, Below wr.heap.size wr W → W.cell? ⟨U, 5, none⟩ = some (.slice (some ⟨gb, 0, none⟩) n1 cap) ∧ W.cell? ⟨gb, n * 14, none⟩ = some (.int .i64 fk) ∧ W.cell? ⟨gb, n * 14 + 1, none⟩ = some (.int .i64 fv) ∧ W.cell? ⟨gb, n * 14 + 2, none⟩ = some (.string fs) ∧ W.cell? ⟨gb, n * 14 + 3, none⟩ = some (.bool fn) ∧ W.cell? ⟨gb, n * 14 + 4, none⟩ = some (.slice fA fa fc) ∧ W.cell? ⟨gb, n * 14 + 5, none⟩ = some (.slice fB fd fe) ∧ W.cell? ⟨gb, n * 14 + 6, none⟩ = some (.slice fX fl fq) ∧ W.cell? ⟨gb, n * 14 + 7, none⟩ = some (.int .i64 ok) ∧ W.cell? ⟨gb, n * 14 + 8, none⟩ = some (.int .i64 ov) ∧ W.cell? ⟨gb, n * 14 + 9, none⟩ = some (.string os) ∧ W.cell? ⟨gb, n * 14 + 10, none⟩ = some (.bool on) ∧ W.cell? ⟨gb, n * 14 + 11, none⟩ = some (.slice oA oa oc) ∧ W.cell? ⟨gb, n * 14 + 12, none⟩ = some (.slice oB od oe) ∧ W.cell? ⟨gb, n * 14 + 13, none⟩ = some (.slice oX ol oq)) := fun W hW => by
        have hu' := HU.out.to hW
        have hr' := row_frT (ts := []) hrow (FrT.of_below hW) (by simp)
        have hcl := row_last hq1 hr' rfl
        exact ⟨hu'.cell 5, hcl 0 _ rfl, hcl 1 _ rfl, hcl 2 _ rfl, hcl 3 _ rfl, hcl 4 _ rfl, hcl 5 _ rfl, hcl 6 _ rfl, hcl 7 _ rfl, hcl 8 _ rfl, hcl 9 _ rfl, hcl 10 _ rfl, hcl 11 _ rfl, hcl 12 _ rfl, hcl 13 _ rfl⟩
      have u5 := HU.out.cell 5
      simp only [List.getElem?_toArray, List.getElem?_cons_zero, List.getElem?_cons_succ] at u5
      have hn1 : (0 : Int) < (n1 : Int) := by omega
      have hi1 : IntKind.i64.wrap ((n1 : Int) - 1) = (n : Int) := by rw [IntWalk.i64_in _ (by omega)]; omega
      have hi2 : (0 : Int) ≤ (n : Int) := by omega
      have hi3 : (n : Int) < (n1 : Int) := by omega
      have HI := Lib.hid (And.intro hi1 (And.intro hi2 hi3))
      clear hi1 hi2 hi3
      have HNN := Lib.hid hn
      clear HL hu hrow hs hda hdb hstep hcl hq1 hn
      go_wp2_with fail
      clear u5 hn1
      have hb1 := (Below.refl wr.heap.size wr).drew
      have hb2 := (below_one wr (.cells #[.int .i64 0, .int .i64 0, .string ⟨#[]⟩, .bool false, .slice none 0 0, .slice none 0 0, .slice none 0 0, .int .i64 0, .int .i64 0, .string ⟨#[]⟩, .bool false, .slice none 0 0, .slice none 0 0, .slice none 0 0] 147)).drew
      have hb3 := (below_one wr (.cells #[.int .i64 fk, .int .i64 fv, .string fs, .bool fn, .slice fA fa fc, .slice fB fd fe, .slice fX fl fq, .int .i64 ok, .int .i64 ov, .string os, .bool on, .slice oA oa oc, .slice oB od oe, .slice oX ol oq] 147)).drew
      have hs1 := HCL.out _ hb1
      have hs2 := HCL.out _ hb2
      have hs3 := HCL.out _ hb3
      have HB3 := Lib.hid hb3
      have HP3 := Lib.hid (Blk.new wr 147 #[.int .i64 fk, .int .i64 fv, .string fs, .bool fn, .slice fA fa fc, .slice fB fd fe, .slice fX fl fq, .int .i64 ok, .int .i64 ov, .string os, .bool on, .slice oA oa oc, .slice oB od oe, .slice oX ol oq]).drew
      clear hb1 hb2 hb3
      obtain ⟨hi1, hi2, hi3⟩ := HI.out
      go_region_held3 (fun w' => w'.cell? ⟨U, 5, none⟩ = some (.slice (some ⟨gb, 0, none⟩) n1 cap) ∧ w'.cell? ⟨gb, n * 14, none⟩ = some (.int .i64 fk) ∧ w'.cell? ⟨gb, n * 14 + 1, none⟩ = some (.int .i64 fv) ∧ w'.cell? ⟨gb, n * 14 + 2, none⟩ = some (.string fs) ∧ w'.cell? ⟨gb, n * 14 + 3, none⟩ = some (.bool fn) ∧ w'.cell? ⟨gb, n * 14 + 4, none⟩ = some (.slice fA fa fc) ∧ w'.cell? ⟨gb, n * 14 + 5, none⟩ = some (.slice fB fd fe) ∧ w'.cell? ⟨gb, n * 14 + 6, none⟩ = some (.slice fX fl fq) ∧ w'.cell? ⟨gb, n * 14 + 7, none⟩ = some (.int .i64 ok) ∧ w'.cell? ⟨gb, n * 14 + 8, none⟩ = some (.int .i64 ov) ∧ w'.cell? ⟨gb, n * 14 + 9, none⟩ = some (.string os) ∧ w'.cell? ⟨gb, n * 14 + 10, none⟩ = some (.bool on) ∧ w'.cell? ⟨gb, n * 14 + 11, none⟩ = some (.slice oA oa oc) ∧ w'.cell? ⟨gb, n * 14 + 12, none⟩ = some (.slice oB od oe) ∧ w'.cell? ⟨gb, n * 14 + 13, none⟩ = some (.slice oX ol oq))
        (first | assumption | (go_keep; done))
        (fail)
      clear hs1 hs2 hs3 HCL
      generalize hy1 : World.drew _ = y1 at HB3 HP3 ⊢
      clear hy1
      have HU1 := Lib.hid (HU.out.to HB3.out)
      have hcp : (n : Int) ≤ (cap : Int) := by
        rcases HROW.out.2 with ⟨h, _⟩ | ⟨_, _, _, h, _, _, h2, _⟩
        · cases h
        · simp only [Value.slice.injEq] at h
          have := HQ1.out
          omega
      have u5 := HU1.out.cell 5
      have fu := HU1.out.frozen 5
      have e5 := HU1.out.drew.cell 5
      have fe' := HU1.out.drew.frozen 5
      simp only [List.getElem?_toArray, List.getElem?_cons_zero, List.getElem?_cons_succ] at u5 e5
      go_wp2_with fail
      go_region_law (fail)
      all_goals
        clear u5 fu e5 fe' hcp hi1 hi2 hi3 HI
        have hk5 := Kept.setCell y1 ⟨U, 5, none⟩ (.slice (some ⟨gb, 0, none⟩) n cap)
        have hf5 : FrT [some 152] y1 (y1.setCell ⟨U, 5, none⟩ (.slice (some ⟨gb, 0, none⟩) n cap)) := (FrT.refl _ _).setCell (p := ⟨U, 5, none⟩) HU1.out (by decide) _
        have HU2 : Hid (US (y1.setCell ⟨U, 5, none⟩ (.slice (some ⟨gb, 0, none⟩) n cap)).drew U h N M (.slice (some ⟨gb, 0, none⟩) n cap)) := by
          have := (HU1.out.set_ 5 (.slice (some ⟨gb, 0, none⟩) n cap)).drew
          simp only [List.setIfInBounds_toArray, List.set_cons_succ, List.set_cons_zero] at this
          exact this
        have HP2 := Lib.hid (HP3.out.frT hf5 (by decide)).drew
        have HR2 : Hid ((y1.setCell ⟨U, 5, none⟩ (.slice (some ⟨gb, 0, none⟩) n cap)).drew.ownsRow Bp 147 14 (.slice (some ⟨gb, 0, none⟩) n cap) n zs) :=
          row_frT (ts := []) (row_frT (row_frT (ts := []) (row_pop HQ1.out HROW.out rfl) (FrT.of_below HB3.out) (by simp)) hf5 (by decide)) (fun _ _ h _ => h) (by simp)
        have HS2 := Lib.hid ((HSS.out.below HB3.out).frT hf5 (by decide) (by decide) (by decide)).drew
        have HFW : Hid (FrT [some 141, some 144, some 196, some 152, some 147, none] wr (y1.setCell ⟨U, 5, none⟩ (.slice (some ⟨gb, 0, none⟩) n cap)).drew ∧ Below B wr (y1.setCell ⟨U, 5, none⟩ (.slice (some ⟨gb, 0, none⟩) n cap)).drew) :=
          ⟨((FrT.of_below HB3.out).trans (hf5.mono (by decide))).drew, ((HB3.out.mono (Nat.le_trans HBP.out HZ.out)).setCell (p := ⟨U, 5, none⟩) (Nat.le_trans HBP.out HBU.out) _).drew⟩
        have HZ2 : Hid (Bp ≤ (y1.setCell ⟨U, 5, none⟩ (.slice (some ⟨gb, 0, none⟩) n cap)).drew.heap.size) := Nat.le_trans HZ.out HFW.out.2.size
        clear hk5 hf5
        generalize hy2 : World.drew _ = y2 at HU2 HP2 HR2 HS2 HFW HZ2 ⊢
        clear hy2 HU1 HP3 HB3 HSS HROW HU
        have HDF : Hid (∀ W, Below y2.heap.size y2 W → Calls Tryz.prog 114 #[.pointer (some ⟨h, 0, none⟩), .agg #[.int .i64 fk, .int .i64 fv, .string fs, .bool fn, .slice fA fa fc, .slice fB fd fe, .slice fX fl fq]] W fun e w' => e = .returned (.agg #[.int .i64 rk, .int .i64 rv, .string rs, .bool rn, .slice rA ra rc, .slice rB rd re, .slice rX rl rq]) ∧ Hid (Below y2.heap.size y2 w')) := fun W hW =>
          (deref_any B h G c m tr xs ys na fk fv fs fn fA fa fc fB fd fe fX fl fq rk rv rs rn rA ra rc rB rd re rX rl rq W HDA.out (HS2.out.below hW)).mono (by
            rintro e w' ⟨rfl, hb⟩
            exact ⟨rfl, hW.trans (hb.mono hW.size)⟩)
        have HDO : Hid (∀ W, Below y2.heap.size y2 W → Calls Tryz.prog 114 #[.pointer (some ⟨h, 0, none⟩), .agg #[.int .i64 ok, .int .i64 ov, .string os, .bool on, .slice oA oa oc, .slice oB od oe, .slice oX ol oq]] W fun e w' => e = .returned (.agg #[.int .i64 pk, .int .i64 pv, .string ps, .bool pn, .slice pA pa pc, .slice pB pd pe, .slice pX pl pq]) ∧ Hid (Below y2.heap.size y2 w')) := fun W hW =>
          (deref_any B h G c m tr xs ys nb ok ov os on oA oa oc oB od oe oX ol oq pk pv ps pn pA pa pc pB pd pe pX pl pq W HDB.out (HS2.out.below hW)).mono (by
            rintro e w' ⟨rfl, hb⟩
            exact ⟨rfl, hW.trans (hb.mono hW.size)⟩)
        have HSP : Hid (∀ W, Below y2.heap.size y2 W → Calls Tryz.prog 113 #[.pointer (some ⟨U, 0, none⟩), .agg #[.int .i64 rk, .int .i64 rv, .string rs, .bool rn, .slice rA ra rc, .slice rB rd re, .slice rX rl rq], .agg #[.int .i64 pk, .int .i64 pv, .string ps, .bool pn, .slice pA pa pc, .slice pB pd pe, .slice pX pl pq]] W fun e w' => e = .returned (.bool true) ∧ Hid (ULive B Bp h G c U (xs2 dk dv ds dn (.slice dA da dc) (.slice dB dd de) (.slice dX dl dq)) j w' ∧ (FrT [some 141, some 144, some 196, some 152, some 147, none] w w' ∧ Below B w w') ∧ Bp ≤ w'.heap.size)) := fun W hW => by
          have hfw : FrT [some 141, some 144, some 196, some 152, some 147, none] wr W := HFW.out.1.trans (FrT.of_below hW)
          have hbw : Below B wr W := HFW.out.2.trans (hW.mono (Nat.le_trans HBP.out HZ2.out))
          have hz := Nat.le_trans HZ2.out hW.size
          refine (HST.out W _ hfw hz (Blk.to HU2.out hW) (row_frT (ts := []) HR2.out (FrT.of_below hW) (by simp)) (HS2.out.below hW)).mono ?_
          rintro e w' ⟨rfl, h1, h2, h3⟩
          exact ⟨rfl, h1, ⟨(HF.out.1.trans hfw).trans h2, (HF.out.2.trans hbw).trans h3⟩, Nat.le_trans hz h3.size⟩
        clear HST HDA HDB HS2 HR2 HU2 HFW HZ2 HF
        have HPC : Hid (∀ W, Below y2.heap.size y2 W → Blk W wr.heap.size 147 #[.int .i64 fk, .int .i64 fv, .string fs, .bool fn, .slice fA fa fc, .slice fB fd fe, .slice fX fl fq, .int .i64 ok, .int .i64 ov, .string os, .bool on, .slice oA oa oc, .slice oB od oe, .slice oX ol oq]) := fun W hW => HP2.out.to hW
        clear HP2
        have hd2 : Below y2.heap.size y2 y2.drew := (Below.refl _ _).drew
        have p0 := (HPC.out _ hd2).cell 0
        have p1 := (HPC.out _ hd2).cell 1
        have p2 := (HPC.out _ hd2).cell 2
        have p3 := (HPC.out _ hd2).cell 3
        have p4 := (HPC.out _ hd2).cell 4
        have p5 := (HPC.out _ hd2).cell 5
        have p6 := (HPC.out _ hd2).cell 6
        have p7 := (HPC.out _ hd2).cell 7
        have p8 := (HPC.out _ hd2).cell 8
        have p9 := (HPC.out _ hd2).cell 9
        have p10 := (HPC.out _ hd2).cell 10
        have p11 := (HPC.out _ hd2).cell 11
        have p12 := (HPC.out _ hd2).cell 12
        have p13 := (HPC.out _ hd2).cell 13
        simp only [List.getElem?_toArray, List.getElem?_cons_zero, List.getElem?_cons_succ] at p0 p1 p2 p3 p4 p5 p6 p7 p8 p9 p10 p11 p12 p13
        go_wp2_with fail
        refine wp_region_held_drew (S := fun _ => True) (by kernel_rfl) trivial (fun hHeld => ?_)
        (refine wpAnyH_take (i := 0) (v := ?_) rfl (by kernel_rfl) (by kernel_rfl) (by kernel_rfl) (fun _ _ _ h => h) (Or.inl ⟨by kernel_rfl, ?_⟩) (by assumption) ?_; rotate_left; ((intro w hSw; (try dsimp only at hSw); go_simp) <;> (with_reducible rfl)); (try (simp only [Act.put, List.setIfInBounds_toArray, List.set_cons_succ, List.set_cons_zero, List.getElem_toArray, List.getElem_cons_succ, List.getElem_cons_zero])))
        (refine wpAnyH_take (i := 1) (v := ?_) rfl (by kernel_rfl) (by kernel_rfl) (by kernel_rfl) (fun _ _ _ h => h) (Or.inl ⟨by kernel_rfl, ?_⟩) (by assumption) ?_; rotate_left; ((intro w hSw; (try dsimp only at hSw); go_simp) <;> (with_reducible rfl)); (try (simp only [Act.put, List.setIfInBounds_toArray, List.set_cons_succ, List.set_cons_zero, List.getElem_toArray, List.getElem_cons_succ, List.getElem_cons_zero])))
        (refine wpAnyH_take (i := 2) (v := ?_) rfl (by kernel_rfl) (by kernel_rfl) (by kernel_rfl) (fun _ _ _ h => h) (Or.inl ⟨by kernel_rfl, ?_⟩) (by assumption) ?_; rotate_left; ((intro w hSw; (try dsimp only at hSw); go_simp) <;> (with_reducible rfl)); (try (simp only [Act.put, List.setIfInBounds_toArray, List.set_cons_succ, List.set_cons_zero, List.getElem_toArray, List.getElem_cons_succ, List.getElem_cons_zero])))
        (refine wpAnyH_take (i := 5) (v := ?_) rfl (by kernel_rfl) (by kernel_rfl) (by kernel_rfl) (fun _ _ _ h => h) (Or.inl ⟨by kernel_rfl, ?_⟩) (by assumption) ?_; rotate_left; ((intro w hSw; (try dsimp only at hSw); go_simp) <;> (with_reducible rfl)); (try (simp only [Act.put, List.setIfInBounds_toArray, List.set_cons_succ, List.set_cons_zero, List.getElem_toArray, List.getElem_cons_succ, List.getElem_cons_zero])))
        (refine wpAnyH_take (i := 6) (v := ?_) rfl (by kernel_rfl) (by kernel_rfl) (by kernel_rfl) (fun _ _ _ h => h) (Or.inl ⟨by kernel_rfl, ?_⟩) (by assumption) ?_; rotate_left; ((intro w hSw; (try dsimp only at hSw); go_simp) <;> (with_reducible rfl)); (try (simp only [Act.put, List.setIfInBounds_toArray, List.set_cons_succ, List.set_cons_zero, List.getElem_toArray, List.getElem_cons_succ, List.getElem_cons_zero])))
        (refine wpAnyH_ready (rs := [3, 7]) (by kernel_rfl) (by simp) ?_; refine AllReadyH.cons rfl (fun K hK => ?_) (AllReadyH.cons rfl (fun K hK => ?_) AllReadyH.nil))
        · go_simp
          refine hK.out _ _ trivial (fun hHeld => ?_)
          clear hK K
          (try (simp only [Act.put, List.setIfInBounds_toArray, List.set_cons_succ, List.set_cons_zero, List.getElem_toArray, List.getElem_cons_succ, List.getElem_cons_zero]))
          (refine wpAnyH_ready (rs := [4, 7]) (by kernel_rfl) (by simp) ?_; refine AllReadyH.cons rfl (fun K hK => ?_) (AllReadyH.cons rfl (fun K hK => ?_) AllReadyH.nil))
          · go_simp
            refine (HDF.out _ hd2).mono ?_
            rintro e w3 ⟨rfl, h3⟩
            refine hK.out _ _ trivial (fun hHeld => ?_)
            clear hK K
            (try (simp only [Act.put, List.setIfInBounds_toArray, List.set_cons_succ, List.set_cons_zero, List.getElem_toArray, List.getElem_cons_succ, List.getElem_cons_zero]))
            have q0 := (HPC.out _ h3.out).cell 0
            have q1 := (HPC.out _ h3.out).cell 1
            have q2 := (HPC.out _ h3.out).cell 2
            have q3 := (HPC.out _ h3.out).cell 3
            have q4 := (HPC.out _ h3.out).cell 4
            have q5 := (HPC.out _ h3.out).cell 5
            have q6 := (HPC.out _ h3.out).cell 6
            have q7 := (HPC.out _ h3.out).cell 7
            have q8 := (HPC.out _ h3.out).cell 8
            have q9 := (HPC.out _ h3.out).cell 9
            have q10 := (HPC.out _ h3.out).cell 10
            have q11 := (HPC.out _ h3.out).cell 11
            have q12 := (HPC.out _ h3.out).cell 12
            have q13 := (HPC.out _ h3.out).cell 13
            simp only [List.getElem?_toArray, List.getElem?_cons_zero, List.getElem?_cons_succ] at q0 q1 q2 q3 q4 q5 q6 q7 q8 q9 q10 q11 q12 q13
            (refine wpAnyH_ready (rs := [7]) (by kernel_rfl) (by simp) ?_; refine AllReadyH.cons rfl (fun K hK => ?_) AllReadyH.nil)
            go_simp
            refine hK.out _ _ trivial (fun hHeld => ?_)
            clear hK K
            (try (simp only [Act.put, List.setIfInBounds_toArray, List.set_cons_succ, List.set_cons_zero, List.getElem_toArray, List.getElem_cons_succ, List.getElem_cons_zero]))
            (refine wpAnyH_ready (rs := [8]) (by kernel_rfl) (by simp) ?_; refine AllReadyH.cons rfl (fun K hK => ?_) AllReadyH.nil)
            go_simp
            refine (HDO.out _ h3.out).mono ?_
            rintro e w4 ⟨rfl, h4⟩
            refine hK.out _ _ trivial (fun hHeld => ?_)
            clear hK K
            (try (simp only [Act.put, List.setIfInBounds_toArray, List.set_cons_succ, List.set_cons_zero, List.getElem_toArray, List.getElem_cons_succ, List.getElem_cons_zero]))
            (refine wpAnyH_ready (rs := [9]) (by kernel_rfl) (by simp) ?_; refine AllReadyH.cons rfl (fun K hK => ?_) AllReadyH.nil)
            go_simp
            refine (HSP.out _ h4.out).mono ?_
            rintro e w5 ⟨rfl, h5⟩
            refine hK.out _ _ trivial (fun hHeld => ?_)
            clear hK K
            (try (simp only [Act.put, List.setIfInBounds_toArray, List.set_cons_succ, List.set_cons_zero, List.getElem_toArray, List.getElem_cons_succ, List.getElem_cons_zero]))
            (refine wpAnyH_take (i := 10) (v := ?_) rfl (by kernel_rfl) (by kernel_rfl) (by kernel_rfl) (fun _ _ _ h => h) (Or.inl ⟨by kernel_rfl, ?_⟩) (by assumption) ?_; rotate_left; ((intro w hSw; (try dsimp only at hSw); go_simp) <;> (with_reducible rfl)); (try (simp only [Act.put, List.setIfInBounds_toArray, List.set_cons_succ, List.set_cons_zero, List.getElem_toArray, List.getElem_cons_succ, List.getElem_cons_zero])))
            (refine wpAnyH_done (by kernel_rfl) ?_ _)
            go_wp2_with fail
            go_roundg j
            case measure => omega
            case rel => exact ⟨h5.out.1, h5.out.2.1, h5.out.2.2⟩
          · go_simp
            refine hK.out _ _ trivial (fun hHeld => ?_)
            clear hK K
            (try (simp only [Act.put, List.setIfInBounds_toArray, List.set_cons_succ, List.set_cons_zero, List.getElem_toArray, List.getElem_cons_succ, List.getElem_cons_zero]))
            (refine wpAnyH_ready (rs := [4]) (by kernel_rfl) (by simp) ?_; refine AllReadyH.cons rfl (fun K hK => ?_) AllReadyH.nil)
            go_simp
            refine (HDF.out _ hd2).mono ?_
            rintro e w3 ⟨rfl, h3⟩
            refine hK.out _ _ trivial (fun hHeld => ?_)
            clear hK K
            (try (simp only [Act.put, List.setIfInBounds_toArray, List.set_cons_succ, List.set_cons_zero, List.getElem_toArray, List.getElem_cons_succ, List.getElem_cons_zero]))
            (refine wpAnyH_ready (rs := [8]) (by kernel_rfl) (by simp) ?_; refine AllReadyH.cons rfl (fun K hK => ?_) AllReadyH.nil)
            go_simp
            refine (HDO.out _ h3.out).mono ?_
            rintro e w4 ⟨rfl, h4⟩
            refine hK.out _ _ trivial (fun hHeld => ?_)
            clear hK K
            (try (simp only [Act.put, List.setIfInBounds_toArray, List.set_cons_succ, List.set_cons_zero, List.getElem_toArray, List.getElem_cons_succ, List.getElem_cons_zero]))
            (refine wpAnyH_ready (rs := [9]) (by kernel_rfl) (by simp) ?_; refine AllReadyH.cons rfl (fun K hK => ?_) AllReadyH.nil)
            go_simp
            refine (HSP.out _ h4.out).mono ?_
            rintro e w5 ⟨rfl, h5⟩
            refine hK.out _ _ trivial (fun hHeld => ?_)
            clear hK K
            (try (simp only [Act.put, List.setIfInBounds_toArray, List.set_cons_succ, List.set_cons_zero, List.getElem_toArray, List.getElem_cons_succ, List.getElem_cons_zero]))
            (refine wpAnyH_take (i := 10) (v := ?_) rfl (by kernel_rfl) (by kernel_rfl) (by kernel_rfl) (fun _ _ _ h => h) (Or.inl ⟨by kernel_rfl, ?_⟩) (by assumption) ?_; rotate_left; ((intro w hSw; (try dsimp only at hSw); go_simp) <;> (with_reducible rfl)); (try (simp only [Act.put, List.setIfInBounds_toArray, List.set_cons_succ, List.set_cons_zero, List.getElem_toArray, List.getElem_cons_succ, List.getElem_cons_zero])))
            (refine wpAnyH_done (by kernel_rfl) ?_ _)
            go_wp2_with fail
            go_roundg j
            case measure => omega
            case rel => exact ⟨h5.out.1, h5.out.2.1, h5.out.2.2⟩
        · go_simp
          refine hK.out _ _ trivial (fun hHeld => ?_)
          clear hK K
          (try (simp only [Act.put, List.setIfInBounds_toArray, List.set_cons_succ, List.set_cons_zero, List.getElem_toArray, List.getElem_cons_succ, List.getElem_cons_zero]))
          (refine wpAnyH_ready (rs := [3]) (by kernel_rfl) (by simp) ?_; refine AllReadyH.cons rfl (fun K hK => ?_) AllReadyH.nil)
          go_simp
          refine hK.out _ _ trivial (fun hHeld => ?_)
          clear hK K
          (try (simp only [Act.put, List.setIfInBounds_toArray, List.set_cons_succ, List.set_cons_zero, List.getElem_toArray, List.getElem_cons_succ, List.getElem_cons_zero]))
          (refine wpAnyH_ready (rs := [4]) (by kernel_rfl) (by simp) ?_; refine AllReadyH.cons rfl (fun K hK => ?_) AllReadyH.nil)
          go_simp
          refine (HDF.out _ hd2).mono ?_
          rintro e w3 ⟨rfl, h3⟩
          refine hK.out _ _ trivial (fun hHeld => ?_)
          clear hK K
          (try (simp only [Act.put, List.setIfInBounds_toArray, List.set_cons_succ, List.set_cons_zero, List.getElem_toArray, List.getElem_cons_succ, List.getElem_cons_zero]))
          (refine wpAnyH_ready (rs := [8]) (by kernel_rfl) (by simp) ?_; refine AllReadyH.cons rfl (fun K hK => ?_) AllReadyH.nil)
          go_simp
          refine (HDO.out _ h3.out).mono ?_
          rintro e w4 ⟨rfl, h4⟩
          refine hK.out _ _ trivial (fun hHeld => ?_)
          clear hK K
          (try (simp only [Act.put, List.setIfInBounds_toArray, List.set_cons_succ, List.set_cons_zero, List.getElem_toArray, List.getElem_cons_succ, List.getElem_cons_zero]))
          (refine wpAnyH_ready (rs := [9]) (by kernel_rfl) (by simp) ?_; refine AllReadyH.cons rfl (fun K hK => ?_) AllReadyH.nil)
          go_simp
          refine (HSP.out _ h4.out).mono ?_
          rintro e w5 ⟨rfl, h5⟩
          refine hK.out _ _ trivial (fun hHeld => ?_)
          clear hK K
          (try (simp only [Act.put, List.setIfInBounds_toArray, List.set_cons_succ, List.set_cons_zero, List.getElem_toArray, List.getElem_cons_succ, List.getElem_cons_zero]))
          (refine wpAnyH_take (i := 10) (v := ?_) rfl (by kernel_rfl) (by kernel_rfl) (by kernel_rfl) (fun _ _ _ h => h) (Or.inl ⟨by kernel_rfl, ?_⟩) (by assumption) ?_; rotate_left; ((intro w hSw; (try dsimp only at hSw); go_simp) <;> (with_reducible rfl)); (try (simp only [Act.put, List.setIfInBounds_toArray, List.set_cons_succ, List.set_cons_zero, List.getElem_toArray, List.getElem_cons_succ, List.getElem_cons_zero])))
          (refine wpAnyH_done (by kernel_rfl) ?_ _)
          go_wp2_with fail
          go_roundg j
          case measure => omega
          case rel => exact ⟨h5.out.1, h5.out.2.1, h5.out.2.2⟩
end Go.Proofs.YtkfnpcilanheiaaGreat

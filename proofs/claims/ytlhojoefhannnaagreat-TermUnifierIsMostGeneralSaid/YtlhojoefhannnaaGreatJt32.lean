/- (*heap.Heap).Unify at the two terms of bound. And 1 more texts. -/
import Derived.Test.YtlhojoefhannnaaGreatJt28
import Derived.Test.YtlhojoefhannnaaGreatJt29
set_option linter.unusedVariables false
set_option linter.unusedSimpArgs false
set_option maxRecDepth 100000
set_option maxHeartbeats 51200000
namespace Go.Proofs.YtlhojoefhannnaaGreat
open Go.RowKit NumB
theorem rJ (B h G c:Nat) (s0:ByteArray) (hs0:s0.size<=1000) (xv:Int) (xn:Bool) (xA:Option Addr) (xa xc:Nat) (xB:Option Addr) (xd xe xb xo xq:Nat) (yv:Int) (yn:Bool) (yA:Option Addr) (ya yc:Nat) (yB:Option Addr) (yd ye yb yo yq:Nat) (xarr yarr:Array Value) (dk dv:Int) (ds:ByteArray) (dn:Bool) (dA:Option Addr) (da dc:Nat) (dB:Option Addr) (dd de:Nat) (dX:Option Addr) (dl dq:Nat) (ks:ByteArray) (kn:Bool) (kA:Option Addr) (ka kc:Nat) (kB:Option Addr) (kd ke:Nat) (kX:Option Addr) (kl kq:Nat) (us:ByteArray) (un:Bool) (uA:Option Addr) (ua uc:Nat) (uB:Option Addr) (ud ue:Nat) (uX:Option Addr) (ul uq:Nat) (js:ByteArray) (jn:Bool) (jA:Option Addr) (ja jc:Nat) (jB:Option Addr) (jd je:Nat) (jX:Option Addr) (jl jq:Nat) (hd:dk≠1) (hxv:an xv) (hyv:an yv) (hxr:dh xarr xo 2) (hyr:dh yarr yo 2)
 (hx0:∀ q,q<7->xarr[xo+0*7+q]?=[(Value.int .i64 1),(Value.int .i64 0),(Value.string us),(Value.bool un),(Value.slice uA ua uc),(Value.slice uB ud ue),(Value.slice uX ul uq)][q]?) (hx1:∀ q,q<7->xarr[xo+1*7+q]?=[(Value.int .i64 dk),(Value.int .i64 dv),(Value.string ds),(Value.bool dn),(Value.slice dA da dc),(Value.slice dB dd de),(Value.slice dX dl dq)][q]?) (hy0:∀ q,q<7->yarr[yo+0*7+q]?=[(Value.int .i64 1),(Value.int .i64 1),(Value.string js),(Value.bool jn),(Value.slice jA ja jc),(Value.slice jB jd je),(Value.slice jX jl jq)][q]?) (hy1:∀ q,q<7->yarr[yo+1*7+q]?=[(Value.int .i64 1),(Value.int .i64 0),(Value.string ks),(Value.bool kn),(Value.slice kA ka kc),(Value.slice kB kd ke),(Value.slice kX kl kq)][q]?)
 (w:World) (hB:B<=w.heap.size) (hx:af w xb 27 xarr) (hy:af w yb 27 yarr) (hxy:xb≠yb) (hS:HS w B h G c (.slice none 0 0) (zc++zc) 0 []):
 Calls Tryz.prog 36 #[.pointer (some ⟨h,0,none⟩),.agg #[.int .i64 5,.int .i64 xv,.string s0,.bool xn,.slice xA xa xc,.slice xB xd xe,.slice (some ⟨xb,xo,none⟩) 2 xq],.agg #[.int .i64 5,.int .i64 yv,.string s0,.bool yn,.slice yA ya yc,.slice yB yd ye,.slice (some ⟨yb,yo,none⟩) 2 yq],.bool false] w fun e w'=>e=.returned (.tuple #[.slice none 0 0,.bool true])/\(∃ tr m ys,HS w' B h G c tr (jt dk dv ds dn (.slice dA da dc) (.slice dB dd de) (.slice dX dl dq)) m ys)/\ar [some 95,some 98,some 130,some 106,some 101,none] w w'/\Below B w w':=by
 have HB:=zH hB;have hbw:Below w.heap.size w ((((w.alloc (.cells #[.int .i64 5,.int .i64 xv,.string s0,.bool xn,.slice xA xa xc,.slice xB xd xe,.slice (some ⟨xb,xo,none⟩) 2 xq] 27)).alloc (.cells #[.int .i64 5,.int .i64 yv,.string s0,.bool yn,.slice yA ya yc,.slice yB yd ye,.slice (some ⟨yb,yo,none⟩) 2 yq] 27)).alloc (.cells #[.int .i64 5,.int .i64 xv,.string s0,.bool xn,.slice xA xa xc,.slice xB xd xe,.slice (some ⟨xb,xo,none⟩) 2 xq,.int .i64 5,.int .i64 yv,.string s0,.bool yn,.slice yA ya yc,.slice yB yd ye,.slice (some ⟨yb,yo,none⟩) 2 yq] 101)).alloc (.cells #[.pointer (some ⟨h,0,none⟩),.bool false,.pointer none,.map none,.slice none 0 0,.slice (some ⟨w.heap.size+1+1,0,none⟩) 1 1] 106)):=((am w _ _).alloc (by simp;omega) _).alloc (by simp;omega) _;have hr0:af ((((w.alloc (.cells #[.int .i64 5,.int .i64 xv,.string s0,.bool xn,.slice xA xa xc,.slice xB xd xe,.slice (some ⟨xb,xo,none⟩) 2 xq] 27)).alloc (.cells #[.int .i64 5,.int .i64 yv,.string s0,.bool yn,.slice yA ya yc,.slice yB yd ye,.slice (some ⟨yb,yo,none⟩) 2 yq] 27)).alloc (.cells #[.int .i64 5,.int .i64 xv,.string s0,.bool xn,.slice xA xa xc,.slice xB xd xe,.slice (some ⟨xb,xo,none⟩) 2 xq,.int .i64 5,.int .i64 yv,.string s0,.bool yn,.slice yA ya yc,.slice yB yd ye,.slice (some ⟨yb,yo,none⟩) 2 yq] 101)).alloc (.cells #[.pointer (some ⟨h,0,none⟩),.bool false,.pointer none,.map none,.slice none 0 0,.slice (some ⟨w.heap.size+1+1,0,none⟩) 1 1] 106)) (w.heap.size+1+1) 101 #[.int .i64 5,.int .i64 xv,.string s0,.bool xn,.slice xA xa xc,.slice xB xd xe,.slice (some ⟨xb,xo,none⟩) 2 xq,.int .i64 5,.int .i64 yv,.string s0,.bool yn,.slice yA ya yc,.slice yB yd ye,.slice (some ⟨yb,yo,none⟩) 2 yq]:=by
  have:=(af.new ((w.alloc (.cells #[.int .i64 5,.int .i64 xv,.string s0,.bool xn,.slice xA xa xc,.slice xB xd xe,.slice (some ⟨xb,xo,none⟩) 2 xq] 27)).alloc (.cells #[.int .i64 5,.int .i64 yv,.string s0,.bool yn,.slice yA ya yc,.slice yB yd ye,.slice (some ⟨yb,yo,none⟩) 2 yq] 27)) 101 #[.int .i64 5,.int .i64 xv,.string s0,.bool xn,.slice xA xa xc,.slice xB xd xe,.slice (some ⟨xb,xo,none⟩) 2 xq,.int .i64 5,.int .i64 yv,.string s0,.bool yn,.slice yA ya yc,.slice yB yd ye,.slice (some ⟨yb,yo,none⟩) 2 yq]).alloc (.cells #[.pointer (some ⟨h,0,none⟩),.bool false,.pointer none,.map none,.slice none 0 0,.slice (some ⟨w.heap.size+1+1,0,none⟩) 1 1] 106);rw[show ((w.alloc (.cells #[.int .i64 5,.int .i64 xv,.string s0,.bool xn,.slice xA xa xc,.slice xB xd xe,.slice (some ⟨xb,xo,none⟩) 2 xq] 27)).alloc (.cells #[.int .i64 5,.int .i64 yv,.string s0,.bool yn,.slice yA ya yc,.slice yB yd ye,.slice (some ⟨yb,yo,none⟩) 2 yq] 27)).heap.size=w.heap.size+1+1 by simp]at this;exact this
 have hrow:((((w.alloc (.cells #[.int .i64 5,.int .i64 xv,.string s0,.bool xn,.slice xA xa xc,.slice xB xd xe,.slice (some ⟨xb,xo,none⟩) 2 xq] 27)).alloc (.cells #[.int .i64 5,.int .i64 yv,.string s0,.bool yn,.slice yA ya yc,.slice yB yd ye,.slice (some ⟨yb,yo,none⟩) 2 yq] 27)).alloc (.cells #[.int .i64 5,.int .i64 xv,.string s0,.bool xn,.slice xA xa xc,.slice xB xd xe,.slice (some ⟨xb,xo,none⟩) 2 xq,.int .i64 5,.int .i64 yv,.string s0,.bool yn,.slice yA ya yc,.slice yB yd ye,.slice (some ⟨yb,yo,none⟩) 2 yq] 101)).alloc (.cells #[.pointer (some ⟨h,0,none⟩),.bool false,.pointer none,.map none,.slice none 0 0,.slice (some ⟨w.heap.size+1+1,0,none⟩) 1 1] 106)).ownsRow w.heap.size 101 14 (.slice (some ⟨w.heap.size+1+1,0,none⟩) 1 1) 1 [(Value.int .i64 5),(Value.int .i64 xv),(Value.string s0),(Value.bool xn),(Value.slice xA xa xc),(Value.slice xB xd xe),(Value.slice (some ⟨xb,xo,none⟩) 2 xq),(Value.int .i64 5),(Value.int .i64 yv),(Value.string s0),(Value.bool yn),(Value.slice yA ya yc),(Value.slice yB yd ye),(Value.slice (some ⟨yb,yo,none⟩) 2 yq)]:=
  ⟨rfl,.inr ⟨_,1,_,rfl,by omega,hr0,Nat.le_refl _,by decide,rfl,rfl⟩⟩
 have hu0:af ((((w.alloc (.cells #[.int .i64 5,.int .i64 xv,.string s0,.bool xn,.slice xA xa xc,.slice xB xd xe,.slice (some ⟨xb,xo,none⟩) 2 xq] 27)).alloc (.cells #[.int .i64 5,.int .i64 yv,.string s0,.bool yn,.slice yA ya yc,.slice yB yd ye,.slice (some ⟨yb,yo,none⟩) 2 yq] 27)).alloc (.cells #[.int .i64 5,.int .i64 xv,.string s0,.bool xn,.slice xA xa xc,.slice xB xd xe,.slice (some ⟨xb,xo,none⟩) 2 xq,.int .i64 5,.int .i64 yv,.string s0,.bool yn,.slice yA ya yc,.slice yB yd ye,.slice (some ⟨yb,yo,none⟩) 2 yq] 101)).alloc (.cells #[.pointer (some ⟨h,0,none⟩),.bool false,.pointer none,.map none,.slice none 0 0,.slice (some ⟨w.heap.size+1+1,0,none⟩) 1 1] 106)) (w.heap.size+1+1+1) 106 #[.pointer (some ⟨h,0,none⟩),.bool false,.pointer none,.map none,.slice none 0 0,.slice (some ⟨w.heap.size+1+1,0,none⟩) 1 1]:=by
  have:=af.new (((w.alloc (.cells #[.int .i64 5,.int .i64 xv,.string s0,.bool xn,.slice xA xa xc,.slice xB xd xe,.slice (some ⟨xb,xo,none⟩) 2 xq] 27)).alloc (.cells #[.int .i64 5,.int .i64 yv,.string s0,.bool yn,.slice yA ya yc,.slice yB yd ye,.slice (some ⟨yb,yo,none⟩) 2 yq] 27)).alloc (.cells #[.int .i64 5,.int .i64 xv,.string s0,.bool xn,.slice xA xa xc,.slice xB xd xe,.slice (some ⟨xb,xo,none⟩) 2 xq,.int .i64 5,.int .i64 yv,.string s0,.bool yn,.slice yA ya yc,.slice yB yd ye,.slice (some ⟨yb,yo,none⟩) 2 yq] 101)) 106 #[.pointer (some ⟨h,0,none⟩),.bool false,.pointer none,.map none,.slice none 0 0,.slice (some ⟨w.heap.size+1+1,0,none⟩) 1 1];rw[show (((w.alloc (.cells #[.int .i64 5,.int .i64 xv,.string s0,.bool xn,.slice xA xa xc,.slice xB xd xe,.slice (some ⟨xb,xo,none⟩) 2 xq] 27)).alloc (.cells #[.int .i64 5,.int .i64 yv,.string s0,.bool yn,.slice yA ya yc,.slice yB yd ye,.slice (some ⟨yb,yo,none⟩) 2 yq] 27)).alloc (.cells #[.int .i64 5,.int .i64 xv,.string s0,.bool xn,.slice xA xa xc,.slice xB xd xe,.slice (some ⟨xb,xo,none⟩) 2 xq,.int .i64 5,.int .i64 yv,.string s0,.bool yn,.slice yA ya yc,.slice yB yd ye,.slice (some ⟨yb,yo,none⟩) 2 yq] 101)).heap.size=w.heap.size+1+1+1 by simp]at this;exact this
 have HL0:Hid (jR B w.heap.size h G c (w.heap.size+1+1+1) (jt dk dv ds dn (.slice dA da dc) (.slice dB dd de) (.slice dX dl dq)) 3 ((((w.alloc (.cells #[.int .i64 5,.int .i64 xv,.string s0,.bool xn,.slice xA xa xc,.slice xB xd xe,.slice (some ⟨xb,xo,none⟩) 2 xq] 27)).alloc (.cells #[.int .i64 5,.int .i64 yv,.string s0,.bool yn,.slice yA ya yc,.slice yB yd ye,.slice (some ⟨yb,yo,none⟩) 2 yq] 27)).alloc (.cells #[.int .i64 5,.int .i64 xv,.string s0,.bool xn,.slice xA xa xc,.slice xB xd xe,.slice (some ⟨xb,xo,none⟩) 2 xq,.int .i64 5,.int .i64 yv,.string s0,.bool yn,.slice yA ya yc,.slice yB yd ye,.slice (some ⟨yb,yo,none⟩) 2 yq] 101)).alloc (.cells #[.pointer (some ⟨h,0,none⟩),.bool false,.pointer none,.map none,.slice none 0 0,.slice (some ⟨w.heap.size+1+1,0,none⟩) 1 1] 106))):=
  zZ B w.heap.size h G c (w.heap.size+1+1+1) hB (by omega) s0 hs0 xv xn xA xa xc xB xd xe xb xo xq yv yn yA ya yc yB yd ye yb yo yq xarr yarr dk dv ds dn dA da dc dB dd de dX dl dq ks kn kA ka kc kB kd ke kX kl kq us un uA ua uc uB ud ue uX ul uq js jn jA ja jc jB jd je jX jl jq hd hxv hyv hxr hyr hx0 hx1 hy0 hy1 ((((w.alloc (.cells #[.int .i64 5,.int .i64 xv,.string s0,.bool xn,.slice xA xa xc,.slice xB xd xe,.slice (some ⟨xb,xo,none⟩) 2 xq] 27)).alloc (.cells #[.int .i64 5,.int .i64 yv,.string s0,.bool yn,.slice yA ya yc,.slice yB yd ye,.slice (some ⟨yb,yo,none⟩) 2 yq] 27)).alloc (.cells #[.int .i64 5,.int .i64 xv,.string s0,.bool xn,.slice xA xa xc,.slice xB xd xe,.slice (some ⟨xb,xo,none⟩) 2 xq,.int .i64 5,.int .i64 yv,.string s0,.bool yn,.slice yA ya yc,.slice yB yd ye,.slice (some ⟨yb,yo,none⟩) 2 yq] 101)).alloc (.cells #[.pointer (some ⟨h,0,none⟩),.bool false,.pointer none,.map none,.slice none 0 0,.slice (some ⟨w.heap.size+1+1,0,none⟩) 1 1] 106)) _ _ 0 (by omega) [] (hx.to hbw) (hy.to hbw) hxy hu0 hrow (hS.below hbw)
 have HF0:Hid (ar [some 95,some 98,some 130,some 106,some 101,none] w ((((w.alloc (.cells #[.int .i64 5,.int .i64 xv,.string s0,.bool xn,.slice xA xa xc,.slice xB xd xe,.slice (some ⟨xb,xo,none⟩) 2 xq] 27)).alloc (.cells #[.int .i64 5,.int .i64 yv,.string s0,.bool yn,.slice yA ya yc,.slice yB yd ye,.slice (some ⟨yb,yo,none⟩) 2 yq] 27)).alloc (.cells #[.int .i64 5,.int .i64 xv,.string s0,.bool xn,.slice xA xa xc,.slice xB xd xe,.slice (some ⟨xb,xo,none⟩) 2 xq,.int .i64 5,.int .i64 yv,.string s0,.bool yn,.slice yA ya yc,.slice yB yd ye,.slice (some ⟨yb,yo,none⟩) 2 yq] 101)).alloc (.cells #[.pointer (some ⟨h,0,none⟩),.bool false,.pointer none,.map none,.slice none 0 0,.slice (some ⟨w.heap.size+1+1,0,none⟩) 1 1] 106))/\Below B w ((((w.alloc (.cells #[.int .i64 5,.int .i64 xv,.string s0,.bool xn,.slice xA xa xc,.slice xB xd xe,.slice (some ⟨xb,xo,none⟩) 2 xq] 27)).alloc (.cells #[.int .i64 5,.int .i64 yv,.string s0,.bool yn,.slice yA ya yc,.slice yB yd ye,.slice (some ⟨yb,yo,none⟩) 2 yq] 27)).alloc (.cells #[.int .i64 5,.int .i64 xv,.string s0,.bool xn,.slice xA xa xc,.slice xB xd xe,.slice (some ⟨xb,xo,none⟩) 2 xq,.int .i64 5,.int .i64 yv,.string s0,.bool yn,.slice yA ya yc,.slice yB yd ye,.slice (some ⟨yb,yo,none⟩) 2 yq] 101)).alloc (.cells #[.pointer (some ⟨h,0,none⟩),.bool false,.pointer none,.map none,.slice none 0 0,.slice (some ⟨w.heap.size+1+1,0,none⟩) 1 1] 106))):=⟨ar.of_below hbw,hbw.mono hB⟩;have d1:=(hS.below hbw).blk.cell 1;simp only[L3]at d1;have HSZ:Hid (w.heap.size<=((((w.alloc (.cells #[.int .i64 5,.int .i64 xv,.string s0,.bool xn,.slice xA xa xc,.slice xB xd xe,.slice (some ⟨xb,xo,none⟩) 2 xq] 27)).alloc (.cells #[.int .i64 5,.int .i64 yv,.string s0,.bool yn,.slice yA ya yc,.slice yB yd ye,.slice (some ⟨yb,yo,none⟩) 2 yq] 27)).alloc (.cells #[.int .i64 5,.int .i64 xv,.string s0,.bool xn,.slice xA xa xc,.slice xB xd xe,.slice (some ⟨xb,xo,none⟩) 2 xq,.int .i64 5,.int .i64 yv,.string s0,.bool yn,.slice yA ya yc,.slice yB yd ye,.slice (some ⟨yb,yo,none⟩) 2 yq] 101)).alloc (.cells #[.pointer (some ⟨h,0,none⟩),.bool false,.pointer none,.map none,.slice none 0 0,.slice (some ⟨w.heap.size+1+1,0,none⟩) 1 1] 106)).heap.size):=hbw.size;clear hS hB hx hy hxy hbw hr0 hrow hu0 hd hxv hyv hxr hyr hx0 hx1 hy0 hy1 hs0;go_enter Tryz.func36,Tryz.ntmps36;go_wp2_with fail;clear d1;generalize ((((w.alloc (.cells #[.int .i64 5,.int .i64 xv,.string s0,.bool xn,.slice xA xa xc,.slice xB xd xe,.slice (some ⟨xb,xo,none⟩) 2 xq] 27)).alloc (.cells #[.int .i64 5,.int .i64 yv,.string s0,.bool yn,.slice yA ya yc,.slice yB yd ye,.slice (some ⟨yb,yo,none⟩) 2 yq] 27)).alloc (.cells #[.int .i64 5,.int .i64 xv,.string s0,.bool xn,.slice xA xa xc,.slice xB xd xe,.slice (some ⟨xb,xo,none⟩) 2 xq,.int .i64 5,.int .i64 yv,.string s0,.bool yn,.slice yA ya yc,.slice yB yd ye,.slice (some ⟨yb,yo,none⟩) 2 yq] 101)).alloc (.cells #[.pointer (some ⟨h,0,none⟩),.bool false,.pointer none,.map none,.slice none 0 0,.slice (some ⟨w.heap.size+1+1,0,none⟩) 1 1] 106))=wi at HL0 HF0 HSZ ⊢;generalize hU0:(w.heap.size+1+1+1)=U at HL0 ⊢;have HBU:Hid (w.heap.size<=U):=by show _<=_;omega
 clear hU0;generalize hwz:w.heap.size=Bp at HL0 HSZ HBU ⊢;have HBP:Hid (B<=Bp):=by rw[<-hwz];exact HB.out
 clear hwz HB
 go_loopg [12] 3 (fun gk s12 wr=>Hid (jR B Bp h G c U (jt dk dv ds dn (.slice dA da dc) (.slice dB dd de) (.slice dX dl dq)) gk wr)/\Hid (ar [some 95,some 98,some 130,some 106,some 101,none] w wr/\Below B w wr)/\Hid (Bp<=wr.heap.size))
 case atStart=>exact⟨HL0,HF0,HSZ⟩
 case round=>
  clear HL0 HF0 HSZ;obtain⟨HL,HF,HZ⟩:=hrel;cases gk with
  |zero=>
   obtain⟨N,M,st,tr,m,ys,hu,hrow,hs⟩:=HL.out;obtain⟨A,cap,rfl⟩:∃ A cap,st=.slice A 0 cap:=by
    rcases hrow.2 with ⟨h,_⟩|⟨g,cap,_,h,_⟩
    ·exact⟨_,_,h⟩
    ·exact⟨_,_,h⟩
   have HU:Hid (af wr U 106 #[.pointer (some ⟨h,0,none⟩),.bool false,N,M,.slice none 0 0,.slice A 0 cap]):=hu;have HSS:=zH hs;have u5:=HU.out.cell 5;simp only[L3]at u5;clear HL hu hrow hs;go_wp2_with fail;refine (dV h _ tr wr HSS.out.blk).mono ?_;rintro e w1 ⟨rfl,hw1⟩;have hf1:ar [some 95] wr w1:=by rw[hw1];exact (ar.refl _ _).setCell (p:=⟨h,1,none⟩) HSS.out.blk (by decide) _
   have HU1:=zH (HU.out.frT hf1 (by decide));have HS1:Hid (HS w1 B h G c (.slice none 0 0) (jt dk dv ds dn (.slice dA da dc) (.slice dB dd de) (.slice dX dl dq)) 0 []):=by
    refine .of ?_ HSS.out.le (av HSS.out.row hf1 (by decide)) (World.ownsRow_nil _ _ _ _);rw[hw1];have:=HSS.out.blk.set_ 1 (.slice none 0 0);simpa using this
   have HF1:Hid (ar [some 95,some 98,some 130,some 106,some 101,none] w w1/\Below B w w1):=by
    refine⟨HF.out.1.trans (hf1.mono (by decide)),?_⟩;rw[hw1];exact HF.out.2.setCell (p:=⟨h,1,none⟩) HSS.out.le _
   have v4:=HU1.out.cell 4;simp only[L3]at v4;clear hw1 hf1 u5;go_wp2_with fail
   go_ret2
   exact⟨rfl,⟨_,_,_,HS1.out⟩,HF1.out.1,HF1.out.2⟩
  |succ j=>
   obtain⟨fk,fv,fs,fn,fA,fa,fc,fB,fd,fe,fX,fl,fq,ok,ov,os,on,oA,oa,oc,oB,od,oe,oX,ol,oq,rk,rv,rs,rn,rA,ra,rc,rB,rd,re,rX,rl,rq,pk,pv,ps,pn,pA,pa,pc,pB,pd,pe,pX,pl,pq,na,nb,st,n,zs,xs,tr,m,ys,N,M,hu,hrow,hn,hs,hda,hdb,hstep⟩:=HL.out;generalize hq1:n+1=n1 at hrow;obtain⟨gb,cap,rfl⟩:=Joins.ownsRow_form hrow (by omega);have HQ1:=zH hq1;have HU:Hid (af wr U 106 #[.pointer (some ⟨h,0,none⟩),.bool false,N,M,.slice none 0 0,.slice (some ⟨gb,0,none⟩) n1 cap]):=hu;have HSS:=zH hs;have HROW:=zH hrow;have HDA:=zH hda;have HDB:=zH hdb;have HST:=zH hstep;have hcl:=iz hq1 hrow rfl;have HCL:Hid (∀ W,Below wr.heap.size wr W->W.cell? ⟨U,5,none⟩=some (.slice (some ⟨gb,0,none⟩) n1 cap)/\W.cell? ⟨gb,n*14,none⟩=some (.int .i64 fk)/\W.cell? ⟨gb,n*14+1,none⟩=some (.int .i64 fv)/\W.cell? ⟨gb,n*14+2,none⟩=some (.string fs)/\W.cell? ⟨gb,n*14+3,none⟩=some (.bool fn)/\W.cell? ⟨gb,n*14+4,none⟩=some (.slice fA fa fc)/\W.cell? ⟨gb,n*14+5,none⟩=some (.slice fB fd fe)/\W.cell? ⟨gb,n*14+6,none⟩=some (.slice fX fl fq)/\W.cell? ⟨gb,n*14+7,none⟩=some (.int .i64 ok)/\W.cell? ⟨gb,n*14+8,none⟩=some (.int .i64 ov)/\W.cell? ⟨gb,n*14+9,none⟩=some (.string os)/\W.cell? ⟨gb,n*14+10,none⟩=some (.bool on)/\W.cell? ⟨gb,n*14+11,none⟩=some (.slice oA oa oc)/\W.cell? ⟨gb,n*14+12,none⟩=some (.slice oB od oe)/\W.cell? ⟨gb,n*14+13,none⟩=some (.slice oX ol oq)):=fun W hW=>by
    have hu':=HU.out.to hW;have hr':=av (ts:=[]) hrow (ar.of_below hW) (by simp);have hcl:=iz hq1 hr' rfl;exact⟨hu'.cell 5,hcl 0 _ rfl,hcl 1 _ rfl,hcl 2 _ rfl,hcl 3 _ rfl,hcl 4 _ rfl,hcl 5 _ rfl,hcl 6 _ rfl,hcl 7 _ rfl,hcl 8 _ rfl,hcl 9 _ rfl,hcl 10 _ rfl,hcl 11 _ rfl,hcl 12 _ rfl,hcl 13 _ rfl⟩
   have u5:=HU.out.cell 5;simp only[L3]at u5;have hn1:(0:Int)<(n1:Int):=by omega
   have hi1:IntKind.i64.wrap ((n1:Int)-1)=(n:Int):=by rw[IntWalk.i64_in _ (by omega)];omega
   have hi2:(0:Int)<=(n:Int):=by omega
   have hi3:(n:Int)<(n1:Int):=by omega
   have HI:=zH (And.intro hi1 (And.intro hi2 hi3));clear hi1 hi2 hi3;have HNN:=zH hn;clear HL hu hrow hs hda hdb hstep hcl hq1 hn;go_wp2_with fail;clear u5 hn1;have hb1:=(Below.refl wr.heap.size wr).drew;have hb2:=(I wr (.cells #[.int .i64 0,.int .i64 0,.string ⟨#[]⟩,.bool false,.slice none 0 0,.slice none 0 0,.slice none 0 0,.int .i64 0,.int .i64 0,.string ⟨#[]⟩,.bool false,.slice none 0 0,.slice none 0 0,.slice none 0 0] 101)).drew;have hb3:=(I wr (.cells #[.int .i64 fk,.int .i64 fv,.string fs,.bool fn,.slice fA fa fc,.slice fB fd fe,.slice fX fl fq,.int .i64 ok,.int .i64 ov,.string os,.bool on,.slice oA oa oc,.slice oB od oe,.slice oX ol oq] 101)).drew;have hs1:=HCL.out _ hb1;have hs2:=HCL.out _ hb2;have hs3:=HCL.out _ hb3;have HB3:=zH hb3;have HP3:=zH (af.new wr 101 #[.int .i64 fk,.int .i64 fv,.string fs,.bool fn,.slice fA fa fc,.slice fB fd fe,.slice fX fl fq,.int .i64 ok,.int .i64 ov,.string os,.bool on,.slice oA oa oc,.slice oB od oe,.slice oX ol oq]).drew;clear hb1 hb2 hb3;obtain⟨hi1,hi2,hi3⟩:=HI.out
   go_region_held3 (fun w'=>w'.cell? ⟨U,5,none⟩=some (.slice (some ⟨gb,0,none⟩) n1 cap)/\w'.cell? ⟨gb,n*14,none⟩=some (.int .i64 fk)/\w'.cell? ⟨gb,n*14+1,none⟩=some (.int .i64 fv)/\w'.cell? ⟨gb,n*14+2,none⟩=some (.string fs)/\w'.cell? ⟨gb,n*14+3,none⟩=some (.bool fn)/\w'.cell? ⟨gb,n*14+4,none⟩=some (.slice fA fa fc)/\w'.cell? ⟨gb,n*14+5,none⟩=some (.slice fB fd fe)/\w'.cell? ⟨gb,n*14+6,none⟩=some (.slice fX fl fq)/\w'.cell? ⟨gb,n*14+7,none⟩=some (.int .i64 ok)/\w'.cell? ⟨gb,n*14+8,none⟩=some (.int .i64 ov)/\w'.cell? ⟨gb,n*14+9,none⟩=some (.string os)/\w'.cell? ⟨gb,n*14+10,none⟩=some (.bool on)/\w'.cell? ⟨gb,n*14+11,none⟩=some (.slice oA oa oc)/\w'.cell? ⟨gb,n*14+12,none⟩=some (.slice oB od oe)/\w'.cell? ⟨gb,n*14+13,none⟩=some (.slice oX ol oq))
    (first|assumption|(go_keep;done))
    (fail)
   clear hs1 hs2 hs3 HCL;generalize hy1:World.drew _=y1 at HB3 HP3 ⊢;clear hy1;have HU1:=zH (HU.out.to HB3.out);have hcp:(n:Int)<=(cap:Int):=by
    rcases HROW.out.2 with ⟨h,_⟩|⟨_,_,_,h,_,_,h2,_⟩
    ·cases h
    ·simp only[Value.slice.injEq]at h;have:=HQ1.out;omega
   have u5:=HU1.out.cell 5;have fu:=HU1.out.frozen 5;have e5:=HU1.out.drew.cell 5;have fe':=HU1.out.drew.frozen 5;simp only[L3]at u5 e5;go_wp2_with fail
   go_region_law (fail)
   all_goals
    clear u5 fu e5 fe' hcp hi1 hi2 hi3 HI;have hk5:=ah.setCell y1 ⟨U,5,none⟩ (.slice (some ⟨gb,0,none⟩) n cap);have hf5:ar [some 106] y1 (y1.setCell ⟨U,5,none⟩ (.slice (some ⟨gb,0,none⟩) n cap)):=(ar.refl _ _).setCell (p:=⟨U,5,none⟩) HU1.out (by decide) _;have HU2:Hid (US (y1.setCell ⟨U,5,none⟩ (.slice (some ⟨gb,0,none⟩) n cap)).drew U h N M (.slice (some ⟨gb,0,none⟩) n cap)):=by
     have:=(HU1.out.set_ 5 (.slice (some ⟨gb,0,none⟩) n cap)).drew;simp only[L1]at this;exact this
    have HP2:=zH (HP3.out.frT hf5 (by decide)).drew;have HR2:Hid ((y1.setCell ⟨U,5,none⟩ (.slice (some ⟨gb,0,none⟩) n cap)).drew.ownsRow Bp 101 14 (.slice (some ⟨gb,0,none⟩) n cap) n zs):=
     av (ts:=[]) (av (av (ts:=[]) (sM HQ1.out HROW.out rfl) (ar.of_below HB3.out) (by simp)) hf5 (by decide)) (fun _ _ h _=>h) (by simp)
    have HS2:=zH ((HSS.out.below HB3.out).frT hf5 (by decide) (by decide) (by decide)).drew;have HFW:Hid (ar [some 95,some 98,some 130,some 106,some 101,none] wr (y1.setCell ⟨U,5,none⟩ (.slice (some ⟨gb,0,none⟩) n cap)).drew/\Below B wr (y1.setCell ⟨U,5,none⟩ (.slice (some ⟨gb,0,none⟩) n cap)).drew):=
     ⟨((ar.of_below HB3.out).trans (hf5.mono (by decide))).drew,((HB3.out.mono (Nat.le_trans HBP.out HZ.out)).setCell (p:=⟨U,5,none⟩) (Nat.le_trans HBP.out HBU.out) _).drew⟩
    have HZ2:Hid (Bp<=(y1.setCell ⟨U,5,none⟩ (.slice (some ⟨gb,0,none⟩) n cap)).drew.heap.size):=Nat.le_trans HZ.out HFW.out.2.size;clear hk5 hf5;generalize hy2:World.drew _=y2 at HU2 HP2 HR2 HS2 HFW HZ2 ⊢;clear hy2 HU1 HP3 HB3 HSS HROW HU;have HDF:Hid (∀ W,Below y2.heap.size y2 W->Calls Tryz.prog 59 #[.pointer (some ⟨h,0,none⟩),.agg #[.int .i64 fk,.int .i64 fv,.string fs,.bool fn,.slice fA fa fc,.slice fB fd fe,.slice fX fl fq]] W fun e w'=>e=.returned (.agg #[.int .i64 rk,.int .i64 rv,.string rs,.bool rn,.slice rA ra rc,.slice rB rd re,.slice rX rl rq])/\Hid (Below y2.heap.size y2 w')):=fun W hW=>
     (iM B h G c m tr xs ys na fk fv fs fn fA fa fc fB fd fe fX fl fq rk rv rs rn rA ra rc rB rd re rX rl rq W HDA.out (HS2.out.below hW)).mono (by
      rintro e w' ⟨rfl,hb⟩;exact⟨rfl,hW.trans (hb.mono hW.size)⟩)
    have HDO:Hid (∀ W,Below y2.heap.size y2 W->Calls Tryz.prog 59 #[.pointer (some ⟨h,0,none⟩),.agg #[.int .i64 ok,.int .i64 ov,.string os,.bool on,.slice oA oa oc,.slice oB od oe,.slice oX ol oq]] W fun e w'=>e=.returned (.agg #[.int .i64 pk,.int .i64 pv,.string ps,.bool pn,.slice pA pa pc,.slice pB pd pe,.slice pX pl pq])/\Hid (Below y2.heap.size y2 w')):=fun W hW=>
     (iM B h G c m tr xs ys nb ok ov os on oA oa oc oB od oe oX ol oq pk pv ps pn pA pa pc pB pd pe pX pl pq W HDB.out (HS2.out.below hW)).mono (by
      rintro e w' ⟨rfl,hb⟩;exact⟨rfl,hW.trans (hb.mono hW.size)⟩)
    have HSP:Hid (∀ W,Below y2.heap.size y2 W->Calls Tryz.prog 58 #[.pointer (some ⟨U,0,none⟩),.agg #[.int .i64 rk,.int .i64 rv,.string rs,.bool rn,.slice rA ra rc,.slice rB rd re,.slice rX rl rq],.agg #[.int .i64 pk,.int .i64 pv,.string ps,.bool pn,.slice pA pa pc,.slice pB pd pe,.slice pX pl pq]] W fun e w'=>e=.returned (.bool true)/\Hid (jR B Bp h G c U (jt dk dv ds dn (.slice dA da dc) (.slice dB dd de) (.slice dX dl dq)) j w'/\(ar [some 95,some 98,some 130,some 106,some 101,none] w w'/\Below B w w')/\Bp<=w'.heap.size)):=fun W hW=>by
     have hfw:ar [some 95,some 98,some 130,some 106,some 101,none] wr W:=HFW.out.1.trans (ar.of_below hW);have hbw:Below B wr W:=HFW.out.2.trans (hW.mono (Nat.le_trans HBP.out HZ2.out));have hz:=Nat.le_trans HZ2.out hW.size;refine (HST.out W _ hfw hz (af.to HU2.out hW) (av (ts:=[]) HR2.out (ar.of_below hW) (by simp)) (HS2.out.below hW)).mono ?_;rintro e w' ⟨rfl,h1,h2,h3⟩;exact⟨rfl,h1,⟨(HF.out.1.trans hfw).trans h2,(HF.out.2.trans hbw).trans h3⟩,Nat.le_trans hz h3.size⟩
    clear HST HDA HDB HS2 HR2 HU2 HFW HZ2 HF;have HPC:Hid (∀ W,Below y2.heap.size y2 W->af W wr.heap.size 101 #[.int .i64 fk,.int .i64 fv,.string fs,.bool fn,.slice fA fa fc,.slice fB fd fe,.slice fX fl fq,.int .i64 ok,.int .i64 ov,.string os,.bool on,.slice oA oa oc,.slice oB od oe,.slice oX ol oq]):=fun W hW=>HP2.out.to hW;clear HP2;have hd2:Below y2.heap.size y2 y2.drew:=(Below.refl _ _).drew;have p0:=(HPC.out _ hd2).cell 0;have p1:=(HPC.out _ hd2).cell 1;have p2:=(HPC.out _ hd2).cell 2;have p3:=(HPC.out _ hd2).cell 3;have p4:=(HPC.out _ hd2).cell 4;have p5:=(HPC.out _ hd2).cell 5;have p6:=(HPC.out _ hd2).cell 6;have p7:=(HPC.out _ hd2).cell 7;have p8:=(HPC.out _ hd2).cell 8;have p9:=(HPC.out _ hd2).cell 9;have p10:=(HPC.out _ hd2).cell 10;have p11:=(HPC.out _ hd2).cell 11;have p12:=(HPC.out _ hd2).cell 12;have p13:=(HPC.out _ hd2).cell 13;simp only[L3]at p0 p1 p2 p3 p4 p5 p6 p7 p8 p9 p10 p11 p12 p13;go_wp2_with fail;refine wp_region_held_drew (S:=fun _=>True) (by kernel_rfl) trivial (fun hHeld=>?_)
    (refine zT 0 ?_;try simp only[Act.put,L1,L2])
    (refine zT 1 ?_;try simp only[Act.put,L1,L2])
    (refine zT 2 ?_;try simp only[Act.put,L1,L2])
    (refine zT 5 ?_;try simp only[Act.put,L1,L2])
    (refine zT 6 ?_;try simp only[Act.put,L1,L2])
    (refine wpAnyH_ready (rs:=[3,7]) (by kernel_rfl) (by simp) ?_;refine AllReadyH.cons rfl (fun K hK=>?_) (AllReadyH.cons rfl (fun K hK=>?_) AllReadyH.nil))
    ·go_simp;refine hK.out _ _ trivial (fun hHeld=>?_);clear hK K
     (try simp only[Act.put,L1,L2])
     (refine wpAnyH_ready (rs:=[4,7]) (by kernel_rfl) (by simp) ?_;refine AllReadyH.cons rfl (fun K hK=>?_) (AllReadyH.cons rfl (fun K hK=>?_) AllReadyH.nil))
     ·go_simp;refine (HDF.out _ hd2).mono ?_;rintro e w3 ⟨rfl,h3⟩;refine hK.out _ _ trivial (fun hHeld=>?_);clear hK K
      (try simp only[Act.put,L1,L2])
      have q0:=(HPC.out _ h3.out).cell 0;have q1:=(HPC.out _ h3.out).cell 1;have q2:=(HPC.out _ h3.out).cell 2;have q3:=(HPC.out _ h3.out).cell 3;have q4:=(HPC.out _ h3.out).cell 4;have q5:=(HPC.out _ h3.out).cell 5;have q6:=(HPC.out _ h3.out).cell 6;have q7:=(HPC.out _ h3.out).cell 7;have q8:=(HPC.out _ h3.out).cell 8;have q9:=(HPC.out _ h3.out).cell 9;have q10:=(HPC.out _ h3.out).cell 10;have q11:=(HPC.out _ h3.out).cell 11;have q12:=(HPC.out _ h3.out).cell 12;have q13:=(HPC.out _ h3.out).cell 13;simp only[L3]at q0 q1 q2 q3 q4 q5 q6 q7 q8 q9 q10 q11 q12 q13
      (refine zR 7 fun K hK=>?_)
      go_simp;refine hK.out _ _ trivial (fun hHeld=>?_);clear hK K
      (try simp only[Act.put,L1,L2])
      (refine zR 8 fun K hK=>?_)
      go_simp;refine (HDO.out _ h3.out).mono ?_;rintro e w4 ⟨rfl,h4⟩;refine hK.out _ _ trivial (fun hHeld=>?_);clear hK K
      (try simp only[Act.put,L1,L2])
      (refine zR 9 fun K hK=>?_)
      go_simp;refine (HSP.out _ h4.out).mono ?_;rintro e w5 ⟨rfl,h5⟩;refine hK.out _ _ trivial (fun hHeld=>?_);clear hK K
      (try simp only[Act.put,L1,L2])
      (refine zT 10 ?_;try simp only[Act.put,L1,L2])
      (refine wpAnyH_done (by kernel_rfl) ?_ _)
      go_wp2_with fail
      go_roundg j
      case measure=>omega
      case rel=>exact⟨h5.out.1,h5.out.2.1,h5.out.2.2⟩
     ·go_simp;refine hK.out _ _ trivial (fun hHeld=>?_);clear hK K
      (try simp only[Act.put,L1,L2])
      (refine zR 4 fun K hK=>?_)
      go_simp;refine (HDF.out _ hd2).mono ?_;rintro e w3 ⟨rfl,h3⟩;refine hK.out _ _ trivial (fun hHeld=>?_);clear hK K
      (try simp only[Act.put,L1,L2])
      (refine zR 8 fun K hK=>?_)
      go_simp;refine (HDO.out _ h3.out).mono ?_;rintro e w4 ⟨rfl,h4⟩;refine hK.out _ _ trivial (fun hHeld=>?_);clear hK K
      (try simp only[Act.put,L1,L2])
      (refine zR 9 fun K hK=>?_)
      go_simp;refine (HSP.out _ h4.out).mono ?_;rintro e w5 ⟨rfl,h5⟩;refine hK.out _ _ trivial (fun hHeld=>?_);clear hK K
      (try simp only[Act.put,L1,L2])
      (refine zT 10 ?_;try simp only[Act.put,L1,L2])
      (refine wpAnyH_done (by kernel_rfl) ?_ _)
      go_wp2_with fail
      go_roundg j
      case measure=>omega
      case rel=>exact⟨h5.out.1,h5.out.2.1,h5.out.2.2⟩
    ·go_simp;refine hK.out _ _ trivial (fun hHeld=>?_);clear hK K
     (try simp only[Act.put,L1,L2])
     (refine zR 3 fun K hK=>?_)
     go_simp;refine hK.out _ _ trivial (fun hHeld=>?_);clear hK K
     (try simp only[Act.put,L1,L2])
     (refine zR 4 fun K hK=>?_)
     go_simp;refine (HDF.out _ hd2).mono ?_;rintro e w3 ⟨rfl,h3⟩;refine hK.out _ _ trivial (fun hHeld=>?_);clear hK K
     (try simp only[Act.put,L1,L2])
     (refine zR 8 fun K hK=>?_)
     go_simp;refine (HDO.out _ h3.out).mono ?_;rintro e w4 ⟨rfl,h4⟩;refine hK.out _ _ trivial (fun hHeld=>?_);clear hK K
     (try simp only[Act.put,L1,L2])
     (refine zR 9 fun K hK=>?_)
     go_simp;refine (HSP.out _ h4.out).mono ?_;rintro e w5 ⟨rfl,h5⟩;refine hK.out _ _ trivial (fun hHeld=>?_);clear hK K
     (try simp only[Act.put,L1,L2])
     (refine zT 10 ?_;try simp only[Act.put,L1,L2])
     (refine wpAnyH_done (by kernel_rfl) ?_ _)
     go_wp2_with fail
     go_roundg j
     case measure=>omega
     case rel=>exact⟨h5.out.1,h5.out.2.1,h5.out.2.2⟩
theorem xm (pk pv:Int) (ps:ByteArray) (pn:Bool) (pA:Option Addr) (pa pc:Nat) (pB:Option Addr) (pd pe:Nat) (pX:Option Addr) (pl pq:Nat) (h1:pk≠1) (h5:pk≠5):gG 2 (jt pk pv ps pn (.slice pA pa pc) (.slice pB pd pe) (.slice pX pl pq)) 2 [Value.int .i64 1,Value.int .i64 1,Value.string ⟨#[]⟩,Value.bool false,Value.slice none 0 0,Value.slice none 0 0,Value.slice none 0 0] [Value.int .i64 pk,Value.int .i64 pv,Value.string ps,Value.bool pn,Value.slice pA pa pc,Value.slice pB pd pe,Value.slice pX pl pq]:=
 .step 1 1 1 1 ⟨#[]⟩ false none 0 0 none 0 0 none 0 0 1 0 ⟨#[]⟩ false none 0 0 none 0 0 none 0 0 _ rfl rfl (by omega) rfl (fun q u hq=>by
  match q,hq with
  |0,hq=>exact hq
  |1,hq=>exact hq
  |2,hq=>exact hq
  |3,hq=>exact hq
  |4,hq=>exact hq
  |5,hq=>exact hq
  |6,hq=>exact hq
  |q+7,hq=>simp at hq)
  (.step 0 0 1 0 ⟨#[]⟩ false none 0 0 none 0 0 none 0 0 pk pv ps pn pA pa pc pB pd pe pX pl pq _ rfl rfl (by omega) rfl (fun q u hq=>by
   match q,hq with
   |0,hq=>exact hq
   |1,hq=>exact hq
   |2,hq=>exact hq
   |3,hq=>exact hq
   |4,hq=>exact hq
   |5,hq=>exact hq
   |6,hq=>exact hq
   |q+7,hq=>simp at hq)
   (.other pk pv ps pn pA pa pc pB pd pe pX pl pq h1))
theorem uH (B h G c m:Nat) (tv:Value) (ys:List Value) (pk pv:Int) (ps:ByteArray) (pn:Bool) (pA:Option Addr) (pa pc:Nat) (pB:Option Addr) (pd pe:Nat) (pX:Option Addr) (pl pq:Nat) (h1:pk≠1) (h5:pk≠5) (w:World) (hS:HS w B h G c tv (jt pk pv ps pn (.slice pA pa pc) (.slice pB pd pe) (.slice pX pl pq)) m ys):
 Calls Tryz.prog 39 #[.pointer (some ⟨h,0,none⟩),.agg #[.int .i64 1,.int .i64 1,.string ⟨#[]⟩,.bool false,.slice none 0 0,.slice none 0 0,.slice none 0 0]] w fun e w'=>e=.returned (.agg #[.int .i64 pk,.int .i64 pv,.string ps,.bool pn,.slice pA pa pc,.slice pB pd pe,.slice pX pl pq])/\Below w.heap.size w w':=by
 have HD:Hid (∀ W,Below w.heap.size w W->Calls Tryz.prog 59 #[.pointer (some ⟨h,0,none⟩),.agg #[.int .i64 1,.int .i64 1,.string ⟨#[]⟩,.bool false,.slice none 0 0,.slice none 0 0,.slice none 0 0]] W fun e w'=>e=.returned (.agg #[.int .i64 pk,.int .i64 pv,.string ps,.bool pn,.slice pA pa pc,.slice pB pd pe,.slice pX pl pq])/\Hid (Below W.heap.size W w')):=fun W hW=>
  iM B h G c m tv _ ys 2 1 1 ⟨#[]⟩ false none 0 0 none 0 0 none 0 0 pk pv ps pn pA pa pc pB pd pe pX pl pq W (xm pk pv ps pn pA pa pc pB pd pe pX pl pq h1 h5) (hS.below hW)
 have k5:(pk==5)=false:=beq_eq_false_iff_ne.2 h5;clear hS h1 h5;go_enter Tryz.func39,Tryz.ntmps39;go_wp2_with fail;have hbw:=am w (.cells #[.int .i64 1,.int .i64 1,.string ⟨#[]⟩,.bool false,.slice none 0 0,.slice none 0 0,.slice none 0 0] 27) (.cells #[.int .i64 0,.int .i64 0,.string ⟨#[]⟩,.bool false,.slice none 0 0,.slice none 0 0,.slice none 0 0] 27);have hbt:af ((w.alloc (.cells #[.int .i64 1,.int .i64 1,.string ⟨#[]⟩,.bool false,.slice none 0 0,.slice none 0 0,.slice none 0 0] 27)).alloc (.cells #[.int .i64 0,.int .i64 0,.string ⟨#[]⟩,.bool false,.slice none 0 0,.slice none 0 0,.slice none 0 0] 27)) w.heap.size 27 #[.int .i64 1,.int .i64 1,.string ⟨#[]⟩,.bool false,.slice none 0 0,.slice none 0 0,.slice none 0 0]:=(af.new w _ _).alloc _;have hbr:af ((w.alloc (.cells #[.int .i64 1,.int .i64 1,.string ⟨#[]⟩,.bool false,.slice none 0 0,.slice none 0 0,.slice none 0 0] 27)).alloc (.cells #[.int .i64 0,.int .i64 0,.string ⟨#[]⟩,.bool false,.slice none 0 0,.slice none 0 0,.slice none 0 0] 27)) (w.heap.size+1) 27 #[.int .i64 0,.int .i64 0,.string ⟨#[]⟩,.bool false,.slice none 0 0,.slice none 0 0,.slice none 0 0]:=by
  have:=af.new (w.alloc (.cells #[.int .i64 1,.int .i64 1,.string ⟨#[]⟩,.bool false,.slice none 0 0,.slice none 0 0,.slice none 0 0] 27)) 27 #[.int .i64 0,.int .i64 0,.string ⟨#[]⟩,.bool false,.slice none 0 0,.slice none 0 0,.slice none 0 0];rw[show (w.alloc (.cells #[.int .i64 1,.int .i64 1,.string ⟨#[]⟩,.bool false,.slice none 0 0,.slice none 0 0,.slice none 0 0] 27)).heap.size=w.heap.size+1 by simp]at this;exact this
 refine (HD.out _ hbw).mono ?_;rintro e w1 ⟨rfl,hb⟩;have HW1:Hid (Below w.heap.size w w1):=hbw.trans (hb.out.mono hbw.size);have hbt1:=hbt.to hb.out;have hbr1:=hbr.to hb.out;have HT:=zH hbt1;have HR:=zH hbr1;have t0:=HT.out.cell 0;have t1:=HT.out.cell 1;have t2:=HT.out.cell 2;have t3:=HT.out.cell 3;have t4:=HT.out.cell 4;have t5:=HT.out.cell 5;have t6:=HT.out.cell 6;obtain⟨y0,y1,y2,y3,y4,y5,y6⟩:=HT.out.z7;have r0:=HR.out.cell 0;have r1:=HR.out.cell 1;have r2:=HR.out.cell 2;have r3:=HR.out.cell 3;have r4:=HR.out.cell 4;have r5:=HR.out.cell 5;have r6:=HR.out.cell 6;obtain⟨z0,z1,z2,z3,z4,z5,z6⟩:=HR.out.z7;simp only[L3]at t0 t1 t2 t3 t4 t5 t6 r0 r1 r2 r3 r4 r5 r6;clear hbt hbr hbt1 hbr1 hb hbw HD;go_wp2_with fail;refine bodyPost_ret (v:=.agg #[.int .i64 pk,.int .i64 pv,.string ps,.bool pn,.slice pA pa pc,.slice pB pd pe,.slice pX pl pq]) (by rw[aD rfl];go_simp) rfl ?_;refine⟨rfl,?_⟩;exact ((((((((((((((HW1.out.setCell (p:=⟨w.heap.size,0,none⟩) (by simp) _).setCell (p:=⟨w.heap.size,1,none⟩) (by simp) _).setCell (p:=⟨w.heap.size,2,none⟩) (by simp) _).setCell (p:=⟨w.heap.size,3,none⟩) (by simp) _).setCell (p:=⟨w.heap.size,4,none⟩) (by simp) _).setCell (p:=⟨w.heap.size,5,none⟩) (by simp) _).setCell (p:=⟨w.heap.size,6,none⟩) (by simp) _).setCell (p:=⟨w.heap.size+1,0,none⟩) (by simp) _).setCell (p:=⟨w.heap.size+1,1,none⟩) (by simp) _).setCell (p:=⟨w.heap.size+1,2,none⟩) (by simp) _).setCell (p:=⟨w.heap.size+1,3,none⟩) (by simp) _).setCell (p:=⟨w.heap.size+1,4,none⟩) (by simp) _).setCell (p:=⟨w.heap.size+1,5,none⟩) (by simp) _).setCell (p:=⟨w.heap.size+1,6,none⟩) (by simp) _)
end Go.Proofs.YtlhojoefhannnaaGreat

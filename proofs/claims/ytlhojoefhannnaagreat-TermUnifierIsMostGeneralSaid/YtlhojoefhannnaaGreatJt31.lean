/- (*heap.Heap).Size in general: its closure at a compound. And 3 more texts. -/
import Derived.Test.YtlhojoefhannnaaGreatJt30
set_option linter.unusedVariables false
set_option linter.unusedSimpArgs false
set_option maxRecDepth 100000
set_option maxHeartbeats 51200000
namespace Go.Proofs.YtlhojoefhannnaaGreat
open Go.RowKit NumB
theorem vk (N:Nat) (t:Tm):(0:Int)<cz N t:=by
 have:=iK t;unfold cz;omega
theorem zP (N:Nat) (t:Tm):cz N t<=(N:Int)+1:=by unfold cz;omega
def cj (N:Nat) (sg:Int->Tm) (l:List Tm) (j:Nat):Int:=((min (1+al (gP sg (l.take j))) (N+1):Nat):Int)
theorem xh (N:Nat) (sg:Int->Tm) (l:List Tm):cj N sg l 0=1:=by
 unfold cj;rw[List.take_zero,bL,al];omega
theorem zO (N:Nat) (sg:Int->Tm) (l:List Tm) (j:Nat):0<=cj N sg l j/\cj N sg l j<=(N:Int)+1:=by unfold cj;omega
theorem pW (sg:Int->Tm):∀ (l:List Tm) (j:Nat),gP sg (l.take j)=(gP sg l).take j:=by
 intro l
 induction l with
 |nil=>intro j;rw[List.take_nil,bL,List.take_nil]
 |cons t l ih=>
  intro j;cases j with
  |zero=>rw[List.take_zero,List.take_zero,bL]
  |succ j=>rw[List.take_succ_cons,bh,bh,List.take_succ_cons,ih]
theorem xg (N:Nat) (sg:Int->Tm) (l:List Tm) {j:Nat} (hj:j<l.length):cj N sg l (j+1)=min (cj N sg l j+cz N ((l[j]).sb sg)) ((N:Int)+1):=by
 have h1:j<(gP sg l).length:=by rw[jK];exact hj
 have h2:=bF (gP sg l) h1;rw[sN sg hj h1]at h2;unfold cj cz;rw[pW,pW,h2];omega
theorem yR (N:Nat) (sg:Int->Tm) {k v:Int} {s:ByteArray} {n:LN} {args:List Tm} (hk:k≠1):cj N sg args args.length=cz N ((Tm.mk k v s n args).sb sg):=by
 unfold cj cz;rw[List.take_length,ch sg hk,Tm.count]
theorem ZN.drew {f:Nat->Option Tm} {sg:Int->Tm} {N nm Bq h G c m:Nat} {tr:Value} {xs ys:List Value} {b1 b2 b3 b4 b5 ms mn:Nat} {w W:World} (g:ZN f sg N nm Bq h G c m tr xs ys b1 b2 b3 b4 b5 ms mn w W):ZN f sg N nm Bq h G c m tr xs ys b1 b2 b3 b4 b5 ms mn w W.drew:=g.below (Below.refl _ _).drew
section
variable {P:Nat->Prop} {f:Nat->Option Tm} {sg:Int->Tm} {N nm Bq h G c m:Nat} {tr:Value} {xs ys:List Value} {b1 b2 b3 b4 b5 ms mn:Nat} {w:World}
theorem uW {t:Tm} {o:Nat} {arr:Array Value} (tv:Int) (ts:ByteArray) (tn:Bool) (tA:Option Addr) (ta tc:Nat) (tB:Option Addr) (td te:Nat) (ab tl tq:Nat) (hl:0<tl) {y:World} (g:ZN f sg N nm Bq h G c m tr xs ys b1 b2 b3 b4 b5 ms mn w y) (ht:af y o 27 #[.int .i64 5,.int .i64 tv,.string ts,.bool tn,.slice tA ta tc,.slice tB td te,.slice (some ⟨ab,0,none⟩) tl tq]) (ha:af w ab 27 arr) (hf:f ab=some t):
 Calls Tryz.prog 63 #[.agg #[.int .i64 5,.int .i64 tv,.string ts,.bool tn,.slice tA ta tc,.slice tB td te,.slice (some ⟨ab,0,none⟩) tl tq]] y fun e y'=>∃ (i:Int),e=.returned (.pointer (some ⟨ab,0,none⟩))/\(Instr.lookup 108 (.map (some mn)) (.pointer (some ⟨ab,0,none⟩)) false).run Tryz.prog y'=.ok (.int .i64 i) y'/\Hid (i=0\/i=cz N (t.sb sg))/\Hid (ZN f sg N nm Bq h G c m tr xs ys b1 b2 b3 b4 b5 ms mn w y')/\Hid (af y' o 27 #[.int .i64 5,.int .i64 tv,.string ts,.bool tn,.slice tA ta tc,.slice tB td te,.slice (some ⟨ab,0,none⟩) tl tq])/\Hid (Below y.heap.size y y')/\(y'.cell? ⟨b4,0,none⟩=some (.map (some mn))/\y'.cell? ⟨o,0,none⟩=some (.int .i64 5)/\y'.cell? ⟨o,1,none⟩=some (.int .i64 tv)/\y'.cell? ⟨o,2,none⟩=some (.string ts)/\y'.cell? ⟨o,3,none⟩=some (.bool tn)/\y'.cell? ⟨o,4,none⟩=some (.slice tA ta tc)/\y'.cell? ⟨o,5,none⟩=some (.slice tB td te)/\y'.cell? ⟨o,6,none⟩=some (.slice (some ⟨ab,0,none⟩) tl tq)):=by
 refine (cQ 5 tv ts tn tA ta tc tB td te ab 0 tl tq hl y).mono ?_;rintro e y' ⟨rfl,hb⟩;have g':=g.below hb;have ht':=ht.to hb;obtain⟨r,hr,hl⟩:=g'.look2 ha hf;rcases hr with rfl|rfl
 ·exact⟨0,rfl,hl,.inl rfl,g',ht',hb,g'.c4,ht'.cell 0,ht'.cell 1,ht'.cell 2,ht'.cell 3,ht'.cell 4,ht'.cell 5,ht'.cell 6⟩
 ·exact⟨_,rfl,hl,.inr rfl,g',ht',hb,g'.c4,ht'.cell 0,ht'.cell 1,ht'.cell 2,ht'.cell 3,ht'.cell 4,ht'.cell 5,ht'.cell 6⟩
theorem wW {t:Tm} {o:Nat} {arr:Array Value} (tv:Int) (ts:ByteArray) (tn:Bool) (tA:Option Addr) (ta tc:Nat) (tB:Option Addr) (td te:Nat) (ab tl tq:Nat) (hl:0<tl) {y:World} (g:ZN f sg N nm Bq h G c m tr xs ys b1 b2 b3 b4 b5 ms mn w y) (ht:af y o 27 #[.int .i64 5,.int .i64 tv,.string ts,.bool tn,.slice tA ta tc,.slice tB td te,.slice (some ⟨ab,0,none⟩) tl tq]) (ha:af w ab 27 arr) (hf:f ab=some t):
 Calls Tryz.prog 63 #[.agg #[.int .i64 5,.int .i64 tv,.string ts,.bool tn,.slice tA ta tc,.slice tB td te,.slice (some ⟨ab,0,none⟩) tl tq]] y fun e y'=>∃ (z:World),e=.returned (.pointer (some ⟨ab,0,none⟩))/\(Instr.mapUpdate 108 (.map (some mn)) (.pointer (some ⟨ab,0,none⟩)) (.int .i64 (cz N (t.sb sg)))).run Tryz.prog y'=.ok () z/\Hid (ZN f sg N nm Bq h G c m tr xs ys b1 b2 b3 b4 b5 ms mn w z/\ah (ZQ ms mn) y z)/\(y'.cell? ⟨b4,0,none⟩=some (.map (some mn))/\y'.cell? ⟨o,0,none⟩=some (.int .i64 5)/\y'.cell? ⟨o,1,none⟩=some (.int .i64 tv)/\y'.cell? ⟨o,2,none⟩=some (.string ts)/\y'.cell? ⟨o,3,none⟩=some (.bool tn)/\y'.cell? ⟨o,4,none⟩=some (.slice tA ta tc)/\y'.cell? ⟨o,5,none⟩=some (.slice tB td te)/\y'.cell? ⟨o,6,none⟩=some (.slice (some ⟨ab,0,none⟩) tl tq))/\(z.cell? ⟨b4,0,none⟩=some (.map (some mn))/\z.cell? ⟨o,0,none⟩=some (.int .i64 5)/\z.cell? ⟨o,1,none⟩=some (.int .i64 tv)/\z.cell? ⟨o,2,none⟩=some (.string ts)/\z.cell? ⟨o,3,none⟩=some (.bool tn)/\z.cell? ⟨o,4,none⟩=some (.slice tA ta tc)/\z.cell? ⟨o,5,none⟩=some (.slice tB td te)/\z.cell? ⟨o,6,none⟩=some (.slice (some ⟨ab,0,none⟩) tl tq)):=by
 refine (cQ 5 tv ts tn tA ta tc tB td te ab 0 tl tq hl y).mono ?_;rintro e y' ⟨rfl,hb⟩;have g':=g.below hb;have ht':=ht.to hb;obtain⟨z,hr,hz,hk⟩:=g'.put2 ha hf;have tz:=g'.blk hk ht';exact⟨z,rfl,hr,⟨hz,(ah.of_below hb).trans hk⟩,⟨g'.c4,ht'.cell 0,ht'.cell 1,ht'.cell 2,ht'.cell 3,ht'.cell 4,ht'.cell 5,ht'.cell 6⟩,hz.c4,tz.cell 0,tz.cell 1,tz.cell 2,tz.cell 3,tz.cell 4,tz.cell 5,tz.cell 6⟩
theorem rE {x:Tm} (hN:1<=N) (hN2:N<=1000000) (tv:Int) (ts:ByteArray) (tn:Bool) (tA:Option Addr) (ta tc:Nat) (tB:Option Addr) (td te:Nat) (tX:Option Addr) (tl tq:Nat) (hx:cw P f w x [.int .i64 5,.int .i64 tv,.string ts,.bool tn,.slice tA ta tc,.slice tB td te,.slice tX tl tq]) (fx:x.fine)
 (hc:∀ i (hi:i<x.args.length) (cs:List Value),cw P f w x.args[i] cs->∀ W,ZN f sg N nm Bq h G c m tr xs ys b1 b2 b3 b4 b5 ms mn w W->Calls Tryz.prog 62 #[.agg cs.toArray,.pointer (some ⟨b1,0,none⟩),.pointer (some ⟨b2,0,none⟩),.pointer (some ⟨b3,0,none⟩),.pointer (some ⟨b4,0,none⟩),.pointer (some ⟨b5,0,none⟩)] W fun e W'=>e=.returned (.int .i64 (cz N ((x.args[i]).sb sg)))/\ZN f sg N nm Bq h G c m tr xs ys b1 b2 b3 b4 b5 ms mn w W'/\ah (ZQ ms mn) W W') (W:World) (g:ZN f sg N nm Bq h G c m tr xs ys b1 b2 b3 b4 b5 ms mn w W):
 Calls Tryz.prog 62 #[.agg #[.int .i64 5,.int .i64 tv,.string ts,.bool tn,.slice tA ta tc,.slice tB td te,.slice tX tl tq],.pointer (some ⟨b1,0,none⟩),.pointer (some ⟨b2,0,none⟩),.pointer (some ⟨b3,0,none⟩),.pointer (some ⟨b4,0,none⟩),.pointer (some ⟨b5,0,none⟩)] W fun e W'=>e=.returned (.int .i64 (cz N (x.sb sg)))/\ZN f sg N nm Bq h G c m tr xs ys b1 b2 b3 b4 b5 ms mn w W'/\ah (ZQ ms mn) W W':=by
 obtain⟨k_,v_,s_,n_,args,A_,B_,Ar,cp,cx,hxx,hcs,hca,hcm,hxr,hxa⟩:=hx.inv;simp only[List.cons.injEq,Value.int.injEq,Value.string.injEq,Value.slice.injEq,true_and,and_true]at hcs;obtain⟨rfl,rfl,rfl,hq1,hq2,hq3,rfl,rfl,hxq⟩:=hcs;subst hxx;have hl0:0<args.length/\args.length<=32:=by
  rw[Tm.fine]at fx;rcases aj fx.2.1 with ⟨_,_,_,_,h⟩|⟨_,_,_,_,h|h|h|h⟩<;>omega
 obtain⟨ab,arr,rfl,hPb,hfb,harr,hcells⟩:=hxr hl0.1;have HC:Hid (∀ i (hi:i<args.length) (W:World),ZN f sg N nm Bq h G c m tr xs ys b1 b2 b3 b4 b5 ms mn w W->Calls Tryz.prog 62 #[.agg (cx i).toArray,.pointer (some ⟨b1,0,none⟩),.pointer (some ⟨b2,0,none⟩),.pointer (some ⟨b3,0,none⟩),.pointer (some ⟨b4,0,none⟩),.pointer (some ⟨b5,0,none⟩)] W fun e W'=>e=.returned (.int .i64 (cz N ((args[i]).sb sg)))/\ZN f sg N nm Bq h G c m tr xs ys b1 b2 b3 b4 b5 ms mn w W'/\ah (ZQ ms mn) W W'):=fun i hi W g=>hc i hi _ (hxa i hi) W g;have HZ0:=zH g;have HFB:=zH hfb;have HAR:=zH harr;have HCE:=zH hcells;have HXA:=zH hxa;have HALL:=zH (yR N sg (k:=5) (v:=tv) (s:=ts) (n:=n_) (args:=args) (by decide));clear hx fx hc hq1 hq2 hq3 hca hcm hxr hxa hPb hfb harr hcells g hxq;have HBT:=zH (af.new W 27 #[.int .i64 5,.int .i64 tv,.string ts,.bool tn,.slice tA ta tc,.slice tB td te,.slice (some ⟨ab,0,none⟩) args.length tq]);have HW1:Hid (Below W.heap.size W (W.alloc (.cells #[.int .i64 5,.int .i64 tv,.string ts,.bool tn,.slice tA ta tc,.slice tB td te,.slice (some ⟨ab,0,none⟩) args.length tq] 27))):=I W _;obtain⟨hl1,hl2⟩:=hl0;have t0:=HBT.out.cell 0;simp only[L3]at t0;go_enter Tryz.func62,Tryz.ntmps62;go_wp2_with fail
 go_quiet (fail)
 generalize hy0:World.drewN _ _=y0;have HY:Hid (Below W.heap.size W y0):=by rw[<-hy0];exact aF HW1.out _
 have HTY:Hid (af y0 W.heap.size 27 #[.int .i64 5,.int .i64 tv,.string ts,.bool tn,.slice tA ta tc,.slice tB td te,.slice (some ⟨ab,0,none⟩) args.length tq]):=by rw[<-hy0];exact HBT.out
 clear hy0 HBT HW1 t0;have HZ1:=zH (HZ0.out.below HY.out);have c4:=HZ1.out.c4;obtain⟨t0,t1,t2,t3,t4,t5,t6⟩:=HTY.out.s7;obtain⟨tl,htl⟩:∃ tl,args.length=tl:=⟨_,rfl⟩;rw[htl]at hl1 hl2;have HTL:=zH htl;have HTY:Hid (af y0 W.heap.size 27 #[.int .i64 5,.int .i64 tv,.string ts,.bool tn,.slice tA ta tc,.slice tB td te,.slice (some ⟨ab,0,none⟩) tl tq]):=by have h:=HTY.out;rw[htl]at h;exact h
 rw[htl]at t6 ⊢;clear htl;have HL0:=zH (uW tv ts tn tA ta tc tB td te ab tl tq hl1 HZ1.out.drew HTY.out.drew HAR.out HFB.out);have hr1:y0.drew.cell? ⟨b4,0,none⟩=some (.map (some mn))/\y0.drew.cell? ⟨W.heap.size,0,none⟩=some (.int .i64 5)/\y0.drew.cell? ⟨W.heap.size,1,none⟩=some (.int .i64 tv)/\y0.drew.cell? ⟨W.heap.size,2,none⟩=some (.string ts)/\y0.drew.cell? ⟨W.heap.size,3,none⟩=some (.bool tn)/\y0.drew.cell? ⟨W.heap.size,4,none⟩=some (.slice tA ta tc)/\y0.drew.cell? ⟨W.heap.size,5,none⟩=some (.slice tB td te)/\y0.drew.cell? ⟨W.heap.size,6,none⟩=some (.slice (some ⟨ab,0,none⟩) tl tq):=⟨HZ1.out.drew.c4,HTY.out.drew.cell 0,HTY.out.drew.cell 1,HTY.out.drew.cell 2,HTY.out.drew.cell 3,HTY.out.drew.cell 4,HTY.out.drew.cell 5,HTY.out.drew.cell 6⟩;go_wp2_with fail
 go_region_held3 (fun w'=>w'.cell? ⟨b4,0,none⟩=some (.map (some mn))/\w'.cell? ⟨W.heap.size,0,none⟩=some (.int .i64 5)/\w'.cell? ⟨W.heap.size,1,none⟩=some (.int .i64 tv)/\w'.cell? ⟨W.heap.size,2,none⟩=some (.string ts)/\w'.cell? ⟨W.heap.size,3,none⟩=some (.bool tn)/\w'.cell? ⟨W.heap.size,4,none⟩=some (.slice tA ta tc)/\w'.cell? ⟨W.heap.size,5,none⟩=some (.slice tB td te)/\w'.cell? ⟨W.heap.size,6,none⟩=some (.slice (some ⟨ab,0,none⟩) tl tq))
  (with_reducible assumption)
  (first
   |(go_at_call 63;(with_reducible refine HL0.out.mono ?_);rintro e y2 ⟨i2,rfl,hlk,HI2,HZ2,HT2,HB2,hr2⟩))
 clear HL0 hr1 hr2 t0 t1 t2 t3 t4 t5 t6 c4 HZ1 HTY;have HK2:Hid (ah (ZQ ms mn) W y2):=(ah.of_below HY.out).trans ((ah.refl _ y0).drew.trans (ah.of_below HB2.out));clear HB2 HY;rcases HI2.out with rfl|rfl
 ·go_wp2_with fail;clear hlk HI2
  go_loopg [10,67] tl (fun gk s10 s67 wr=>∃ j:Nat,gk+j=tl/\s67=.int .i64 (j:Int)/\s10=.int .i64 (cj N sg args j)/\Hid (ZN f sg N nm Bq h G c m tr xs ys b1 b2 b3 b4 b5 ms mn w wr/\ah (ZQ ms mn) W wr/\af wr W.heap.size 27 #[.int .i64 5,.int .i64 tv,.string ts,.bool tn,.slice tA ta tc,.slice tB td te,.slice (some ⟨ab,0,none⟩) tl tq]))
  case atStart=>exact⟨0,by omega,rfl,by rw[xh],HZ2.out,HK2.out,HT2.out⟩
  case round=>
   clear HZ2 HK2 HT2;obtain⟨j,hgj,rfl,rfl,HI⟩:=hrel;obtain⟨hZ,hK,hT⟩:=HI.out;have HZ:=zH hZ;have HK:=zH hK;have HT:=zH hT;clear HI hZ hK hT;by_cases hj:j<tl
   ·have hja:j<args.length:=by rw[HTL.out];exact hj
    obtain⟨pb,po,k',v',s',ng',A2,n2,c2,B2,m3,d2,Xr,xl,xc,hAr,hcs,hlt,e0,e1,e2,e3,e4,e5,e6⟩:=aO (Ar:=some ⟨ab,0,none⟩) (fun _=>⟨ab,0,rfl,HAR.out.lt,fun i hi q hq=>by rw[HAR.out.cell,Nat.zero_add];exact HCE.out i hi q hq⟩) (fun i hi=>(HXA.out i hi).tc) HZ.out.b hja;simp only[Option.some.injEq,Addr.mk.injEq,and_true]at hAr;obtain⟨rfl,rfl⟩:=hAr;simp only[Nat.zero_add]at e0 e1 e2 e3 e4 e5 e6;obtain⟨yx,hyx⟩:∃ yx,(wr.alloc (.cells #[.int .i64 k',.int .i64 v',.string s',.bool ng',.slice A2 n2 c2,.slice B2 m3 d2,.slice Xr xl xc] 27)).drew=yx:=⟨_,rfl⟩;have hb1:Below wr.heap.size wr yx:=hyx▸(I wr _).drew;have hx1:af yx wr.heap.size 27 #[.int .i64 k',.int .i64 v',.string s',.bool ng',.slice A2 n2 c2,.slice B2 m3 d2,.slice Xr xl xc]:=hyx▸(af.new wr 27 #[.int .i64 k',.int .i64 v',.string s',.bool ng',.slice A2 n2 c2,.slice B2 m3 d2,.slice Xr xl xc]).drew;have hz1:=HZ.out.below hb1;have hr1:yx.cell? ⟨b3,0,none⟩=some (.func (.func 62) #[] #[.pointer (some ⟨b1,0,none⟩),.pointer (some ⟨b2,0,none⟩),.pointer (some ⟨b3,0,none⟩),.pointer (some ⟨b4,0,none⟩),.pointer (some ⟨b5,0,none⟩)])/\yx.cell? ⟨b5,0,none⟩=some (.int .i64 (N:Int))/\yx.cell? ⟨wr.heap.size,0,none⟩=some (.int .i64 k')/\yx.cell? ⟨wr.heap.size,1,none⟩=some (.int .i64 v')/\yx.cell? ⟨wr.heap.size,2,none⟩=some (.string s')/\yx.cell? ⟨wr.heap.size,3,none⟩=some (.bool ng')/\yx.cell? ⟨wr.heap.size,4,none⟩=some (.slice A2 n2 c2)/\yx.cell? ⟨wr.heap.size,5,none⟩=some (.slice B2 m3 d2)/\yx.cell? ⟨wr.heap.size,6,none⟩=some (.slice Xr xl xc):=⟨hz1.c3,hz1.c5,hx1.cell 0,hx1.cell 1,hx1.cell 2,hx1.cell 3,hx1.cell 4,hx1.cell 5,hx1.cell 6⟩;have HCL:Hid (Calls Tryz.prog 62 #[.agg #[.int .i64 k',.int .i64 v',.string s',.bool ng',.slice A2 n2 c2,.slice B2 m3 d2,.slice Xr xl xc],.pointer (some ⟨b1,0,none⟩),.pointer (some ⟨b2,0,none⟩),.pointer (some ⟨b3,0,none⟩),.pointer (some ⟨b4,0,none⟩),.pointer (some ⟨b5,0,none⟩)] yx fun e W'=>e=.returned (.int .i64 (cz N ((args[j]).sb sg)))/\Hid (ZN f sg N nm Bq h G c m tr xs ys b1 b2 b3 b4 b5 ms mn w W'/\ah (ZQ ms mn) wr W')/\(W'.cell? ⟨b3,0,none⟩=some (.func (.func 62) #[] #[.pointer (some ⟨b1,0,none⟩),.pointer (some ⟨b2,0,none⟩),.pointer (some ⟨b3,0,none⟩),.pointer (some ⟨b4,0,none⟩),.pointer (some ⟨b5,0,none⟩)])/\W'.cell? ⟨b5,0,none⟩=some (.int .i64 (N:Int))/\W'.cell? ⟨wr.heap.size,0,none⟩=some (.int .i64 k')/\W'.cell? ⟨wr.heap.size,1,none⟩=some (.int .i64 v')/\W'.cell? ⟨wr.heap.size,2,none⟩=some (.string s')/\W'.cell? ⟨wr.heap.size,3,none⟩=some (.bool ng')/\W'.cell? ⟨wr.heap.size,4,none⟩=some (.slice A2 n2 c2)/\W'.cell? ⟨wr.heap.size,5,none⟩=some (.slice B2 m3 d2)/\W'.cell? ⟨wr.heap.size,6,none⟩=some (.slice Xr xl xc))):=by
     have h:=HC.out j hja _ hz1;rw[hcs]at h;refine h.mono ?_;rintro e W' ⟨rfl,g,hk2⟩;have t:=hz1.blk hk2 hx1;exact⟨rfl,⟨g,(ah.of_below hb1).trans hk2⟩,⟨g.c3,g.c5,t.cell 0,t.cell 1,t.cell 2,t.cell 3,t.cell 4,t.cell 5,t.cell 6⟩⟩
    have hw0:=zO N sg args j;have hw1:=vk N ((args[j]).sb sg);have hw2:=zP N ((args[j]).sb sg);have HSU:=zH (xg N sg args hja);have w1:IntKind.i64.wrap (cj N sg args j+cz N ((args[j]).sb sg))=cj N sg args j+cz N ((args[j]).sb sg):=IntWalk.i64_in _ (by omega);have w2:IntKind.i64.wrap ((N:Int)+1)=(N:Int)+1:=IntWalk.i64_in _ (by omega);clear hz1 hx1 hb1 hcs hlt hw0 hw1 hw2;subst hyx;go_wp2_with fail;clear e0 e1 e2 e3 e4 e5 e6
    go_region_held3 (fun w'=>w'.cell? ⟨b3,0,none⟩=some (.func (.func 62) #[] #[.pointer (some ⟨b1,0,none⟩),.pointer (some ⟨b2,0,none⟩),.pointer (some ⟨b3,0,none⟩),.pointer (some ⟨b4,0,none⟩),.pointer (some ⟨b5,0,none⟩)])/\w'.cell? ⟨b5,0,none⟩=some (.int .i64 (N:Int))/\w'.cell? ⟨wr.heap.size,0,none⟩=some (.int .i64 k')/\w'.cell? ⟨wr.heap.size,1,none⟩=some (.int .i64 v')/\w'.cell? ⟨wr.heap.size,2,none⟩=some (.string s')/\w'.cell? ⟨wr.heap.size,3,none⟩=some (.bool ng')/\w'.cell? ⟨wr.heap.size,4,none⟩=some (.slice A2 n2 c2)/\w'.cell? ⟨wr.heap.size,5,none⟩=some (.slice B2 m3 d2)/\w'.cell? ⟨wr.heap.size,6,none⟩=some (.slice Xr xl xc))
     (with_reducible assumption)
     (first
      |(go_at_call 62;(with_reducible refine HCL.out.mono ?_);rintro e y3 ⟨rfl,HG3,hr3⟩))
    clear HCL hr1 hr3 w1 w2;go_wp2_with fail
    go_roundg (gk-1)
    case measure=>omega
    case rel=>
     obtain⟨g3,hk3⟩:=HG3.out;exact⟨j+1,by omega,by go_num,by rw[HSU.out],g3,HK.out.trans hk3,HZ.out.blk hk3 HT.out⟩
   ·have hjl:j=tl:=by omega
    subst hjl;have HP0:=zH (wW tv ts tn tA ta tc tB td te ab j tq hl1 HZ.out.drew HT.out.drew HAR.out HFB.out);have hr1:wr.drew.cell? ⟨b4,0,none⟩=some (.map (some mn))/\wr.drew.cell? ⟨W.heap.size,0,none⟩=some (.int .i64 5)/\wr.drew.cell? ⟨W.heap.size,1,none⟩=some (.int .i64 tv)/\wr.drew.cell? ⟨W.heap.size,2,none⟩=some (.string ts)/\wr.drew.cell? ⟨W.heap.size,3,none⟩=some (.bool tn)/\wr.drew.cell? ⟨W.heap.size,4,none⟩=some (.slice tA ta tc)/\wr.drew.cell? ⟨W.heap.size,5,none⟩=some (.slice tB td te)/\wr.drew.cell? ⟨W.heap.size,6,none⟩=some (.slice (some ⟨ab,0,none⟩) j tq):=⟨HZ.out.c4,HT.out.cell 0,HT.out.cell 1,HT.out.cell 2,HT.out.cell 3,HT.out.cell 4,HT.out.cell 5,HT.out.cell 6⟩;have hcj:cj N sg args j=cz N ((Tm.mk 5 tv ts n_ args).sb sg):=by
     have h:=HALL.out;rw[HTL.out]at h;exact h
    rw[hcj];go_wp2_with fail
    go_region_held3 (fun w'=>w'.cell? ⟨b4,0,none⟩=some (.map (some mn))/\w'.cell? ⟨W.heap.size,0,none⟩=some (.int .i64 5)/\w'.cell? ⟨W.heap.size,1,none⟩=some (.int .i64 tv)/\w'.cell? ⟨W.heap.size,2,none⟩=some (.string ts)/\w'.cell? ⟨W.heap.size,3,none⟩=some (.bool tn)/\w'.cell? ⟨W.heap.size,4,none⟩=some (.slice tA ta tc)/\w'.cell? ⟨W.heap.size,5,none⟩=some (.slice tB td te)/\w'.cell? ⟨W.heap.size,6,none⟩=some (.slice (some ⟨ab,0,none⟩) j tq))
     (with_reducible assumption)
     (first
      |(go_at_call 63;(with_reducible refine HP0.out.mono ?_);rintro e y2 ⟨z2,rfl,hput,HZ2,hr2,hr3⟩))
    clear HP0 hr1 hr2 hr3 hput;go_wp2_with fail;go_ret;exact⟨rfl,HZ2.out.1,HK.out.trans ((ah.refl _ wr).drew.trans HZ2.out.2)⟩
 ·have hp:=vk N ((Tm.mk 5 tv ts n_ args).sb sg);go_wp2_with fail;go_ret;exact⟨rfl,HZ2.out,HK2.out⟩
end
end Go.Proofs.YtlhojoefhannnaaGreat
namespace Go.Proofs.YtlhojoefhannnaaGreat
open Go.RowKit NumB
theorem aS {w:World} {o:Obj} {k:Nat} (h:k=w.heap.size):(w.alloc o).heap[k]?=some o:=by
 subst h;have h:(w.alloc o).heap=w.heap.push o:=rfl;rw[h,Array.getElem?_push_size]
theorem aH {w:World} {o:Obj} {k:Nat} (h:k≠w.heap.size):(w.alloc o).heap[k]?=w.heap[k]?:=by
 have h2:(w.alloc o).heap=w.heap.push o:=rfl;rw[h2,Array.getElem?_push,if_neg h]
def Am:Tm->Nat
 |.mk k v _ _ _=>if k=1 then v.toNat+1 else 0
section
variable {P:Nat->Prop} {f:Nat->Option Tm} {sg:Int->Tm} {N nm Bq h G c m:Nat} {tr:Value} {xs ys:List Value} {w:World} {L:List Tm} {b:Int->Option Tm}
theorem yj {b1 b2 b3 b4 b5 ms mn:Nat} (hN:1<=N) (hN2:N<=1000000) (hB:qC P f w nm xs b) (hU:lm nm L) (hW:rQ L b) (hg:jv b sg):
 ∀ (K:Nat) (t:Tm) (cs:List Value),(t.sb sg).count*(nm+1)+Am t<K->t∈L->cw P f w t cs->∀ W,ZN f sg N nm Bq h G c m tr xs ys b1 b2 b3 b4 b5 ms mn w W->
 Calls Tryz.prog 62 #[.agg cs.toArray,.pointer (some ⟨b1,0,none⟩),.pointer (some ⟨b2,0,none⟩),.pointer (some ⟨b3,0,none⟩),.pointer (some ⟨b4,0,none⟩),.pointer (some ⟨b5,0,none⟩)] W fun e W'=>e=.returned (.int .i64 (cz N (t.sb sg)))/\ZN f sg N nm Bq h G c m tr xs ys b1 b2 b3 b4 b5 ms mn w W'/\ah (ZQ ms mn) W W':=by
 intro K
 induction K with
 |zero=>intro t cs h;omega
 |succ K ih=>
 intro t cs hK ht hc W g;have ft:=(hU.1.2 _ ht).1;obtain⟨k,v,s,n,args⟩:=t;by_cases hk1:k=1
 ·have ev:=aZ ft hk1;have hr:=hU.2 _ ht v ev;obtain⟨i,hi⟩:=Int.eq_ofNat_of_zero_le hr.1;subst hk1 hi;have hin:i<nm:=by omega
  rw[eI]at hK ⊢;obtain⟨tk,tv,ts,tn,tA,ta,tc,tB,td,te,tX,tl,tq,rfl⟩:=hc.form;obtain⟨rfl,rfl⟩:tk=1/\tv=(i:Int):=by
   cases hc;exact⟨rfl,rfl⟩
  rcases hB.cell i hin with ⟨hfr,hce⟩|⟨y,cy,hbd,hcy,hce⟩
  ·refine (rF hin (by have:=hce 0 (by omega);rw[Nat.add_zero]at this;exact this) ts tn tA ta tc tB td te tX tl tq W g).mono ?_;rintro e W' ⟨rfl,hb⟩;refine⟨?_,g.below hb,ah.of_below hb⟩;rw[hg.1 _ hfr];have:(Tm.var (i:Int)).count=1:=by unfold Tm.var;rw[Tm.count,al]
   unfold cz;rw[this,Nat.min_eq_left (by omega)];rfl
  ·obtain⟨pk,pv,ps,pn,pA,pa,pc,pB,pd,pe,pX,pl,pq,rfl⟩:=hcy.form;have hy:=hW _ _ hbd;have hsl:=hg.2.1 _ _ hbd;refine qh hin ts tn tA ta tc tB td te tX tl tq pk pv ps pn pA pa pc pB pd pe pX pl pq (fun q u hq=>by rw[hce q (by have:=(List.getElem?_eq_some_iff.1 hq).1;simpa[oz] using this)];exact hq) W g fun W1 g1=>?_;rw[hsl]at hK ⊢;refine ih y _ ?_ hy.1 hcy W1 g1;have:Am y<Am (.mk 1 (i:Int) s n args):=by
    obtain⟨k2,v2,s2,n2,args2⟩:=y;show (if k2=1 then v2.toNat+1 else 0)<(i:Int).toNat+1
    split
    ·next h2=>
     have e:=aZ (hU.1.2 _ hy.1).1 h2;have:=hy.2 _ e;have:=(hU.2 _ hy.1 _ e).1;omega
    ·omega
   omega
 ·by_cases hk5:k=5
  ·subst hk5;obtain⟨tk,tv,ts,tn,tA,ta,tc,tB,td,te,tX,tl,tq,rfl⟩:=hc.form;obtain rfl:tk=5:=by
    cases hc;rfl
   refine rE hN hN2 tv ts tn tA ta tc tB td te tX tl tq hc ft (fun i hi cs hcs W1 g1=>?_) W g;refine ih _ cs ?_ ((hU.1.2 _ ht).2.2 _ (List.getElem_mem hi)) hcs W1 g1;have h1:=gU (fun v e=>hk1 (bE e).1) (Tm.cn_fine _ ft) (List.getElem_mem hi) sg;have h2:Am ((Tm.mk 5 v s n args).args[i])<=nm:=by
    have hm:=(hU.1.2 _ ht).2.2 _ (List.getElem_mem hi)
    revert hm
    generalize (Tm.mk 5 v s n args).args[i]=a;intro hm;obtain⟨k2,v2,s2,n2,args2⟩:=a;show (if k2=1 then v2.toNat+1 else 0)<=nm
    split
    ·next h2=>
     have e:=aZ (hU.1.2 _ hm).1 h2;have:=hU.2 _ hm _ e;omega
    ·omega
   have h3:=Nat.mul_le_mul_right (nm+1) (Nat.succ_le_of_lt h1);rw[Nat.succ_mul]at h3;omega
  ·have hna:=eL ft hk5;subst hna;obtain⟨tk,tv,ts,tn,tA,ta,tc,tB,td,te,tX,tl,tq,rfl⟩:=hc.form;obtain rfl:tk=k:=by
    cases hc;rfl
   refine (kO b1 b2 b3 b4 b5 tk tv ts tn tA ta tc tB td te tX tl tq hk1 hk5 W).mono ?_;rintro e W' ⟨rfl,hb⟩;refine⟨?_,g.below hb,ah.of_below hb⟩;unfold cz;rw[ch sg hk1,bL,Tm.count,al,Nat.min_eq_left (by omega)];rfl
theorem ym (hN:1<=N) (hN2:N<=1000000) (hS:dC nm w Bq h G c tr xs m ys) (hB:qC P f w nm xs b) (hU:lm nm L) (hW:rQ L b) (hg:jv b sg) {t:Tm} {cs:List Value} (ht:t∈L) (hc:cw P f w t cs):
 Calls Tryz.prog 38 #[.pointer (some ⟨h,0,none⟩),.agg cs.toArray,.int .i64 (N:Int)] w fun e w'=>e=.returned (.int .i64 (cz N (t.sb sg)))/\Below w.heap.size w w':=by
 have hmm:=@run_makeMap Tryz.prog;obtain⟨tk,tv,ts,tn,tA,ta,tc,tB,td,te,tX,tl,tq,rfl⟩:=hc.form;have hb7:af ((((((((w.alloc (.cells #[.pointer (some ⟨h,0,none⟩)] 68)).alloc (.cells #[.int .i64 tk,.int .i64 tv,.string ts,.bool tn,.slice tA ta tc,.slice tB td te,.slice tX tl tq] 27)).alloc (.cells #[.int .i64 (N:Int)] 3)).alloc (.map #[] 0)).alloc (.map #[] 0)).alloc (.cells #[.map (some (w.heap.size+1+1+1))] 67)).alloc (.cells #[.map (some (w.heap.size+1+1+1+1))] 108)).alloc (.cells #[.nilFunc] 48)) (w.heap.size+1+1+1+1+1+1+1) 48 #[.nilFunc]:=by
  unfold af
  repeat (first|exact aS (by simp)|rw[aH (by simp<;>omega)])
 have fz:=hb7.frozen 0;have a7:=hb7.cell 0;have hst:(store ⟨w.heap.size+1+1+1+1+1+1+1,0,none⟩ (.func (.func 62) #[] #[.pointer (some ⟨w.heap.size,0,none⟩),.pointer (some ⟨w.heap.size+1+1+1+1+1,0,none⟩),.pointer (some ⟨w.heap.size+1+1+1+1+1+1+1,0,none⟩),.pointer (some ⟨w.heap.size+1+1+1+1+1+1,0,none⟩),.pointer (some ⟨w.heap.size+1+1,0,none⟩)])).run Tryz.prog ((((((((w.alloc (.cells #[.pointer (some ⟨h,0,none⟩)] 68)).alloc (.cells #[.int .i64 tk,.int .i64 tv,.string ts,.bool tn,.slice tA ta tc,.slice tB td te,.slice tX tl tq] 27)).alloc (.cells #[.int .i64 (N:Int)] 3)).alloc (.map #[] 0)).alloc (.map #[] 0)).alloc (.cells #[.map (some (w.heap.size+1+1+1))] 67)).alloc (.cells #[.map (some (w.heap.size+1+1+1+1))] 108)).alloc (.cells #[.nilFunc] 48))=.ok () (((((((((w.alloc (.cells #[.pointer (some ⟨h,0,none⟩)] 68)).alloc (.cells #[.int .i64 tk,.int .i64 tv,.string ts,.bool tn,.slice tA ta tc,.slice tB td te,.slice tX tl tq] 27)).alloc (.cells #[.int .i64 (N:Int)] 3)).alloc (.map #[] 0)).alloc (.map #[] 0)).alloc (.cells #[.map (some (w.heap.size+1+1+1))] 67)).alloc (.cells #[.map (some (w.heap.size+1+1+1+1))] 108)).alloc (.cells #[.nilFunc] 48)).setCell ⟨w.heap.size+1+1+1+1+1+1+1,0,none⟩ (.func (.func 62) #[] #[.pointer (some ⟨w.heap.size,0,none⟩),.pointer (some ⟨w.heap.size+1+1+1+1+1,0,none⟩),.pointer (some ⟨w.heap.size+1+1+1+1+1+1+1,0,none⟩),.pointer (some ⟨w.heap.size+1+1+1+1+1+1,0,none⟩),.pointer (some ⟨w.heap.size+1+1,0,none⟩)])):=by
  rw[run_store _ _ _ _ _ rfl,a7,fz];rfl
 clear hb7 fz a7;have HRUN:Hid (Calls Tryz.prog 62 #[.agg #[.int .i64 tk,.int .i64 tv,.string ts,.bool tn,.slice tA ta tc,.slice tB td te,.slice tX tl tq],.pointer (some ⟨w.heap.size,0,none⟩),.pointer (some ⟨w.heap.size+1+1+1+1+1,0,none⟩),.pointer (some ⟨w.heap.size+1+1+1+1+1+1+1,0,none⟩),.pointer (some ⟨w.heap.size+1+1+1+1+1+1,0,none⟩),.pointer (some ⟨w.heap.size+1+1,0,none⟩)] ((((((((w.alloc (.cells #[.pointer (some ⟨h,0,none⟩)] 68)).alloc (.cells #[.int .i64 tk,.int .i64 tv,.string ts,.bool tn,.slice tA ta tc,.slice tB td te,.slice tX tl tq] 27)).alloc (.cells #[.int .i64 (N:Int)] 3)).alloc (.map #[] 0)).alloc (.map #[] 0)).alloc (.cells #[.map (some (w.heap.size+1+1+1))] 67)).alloc (.cells #[.map (some (w.heap.size+1+1+1+1))] 108)).alloc (.cells #[.func (.func 62) #[] #[.pointer (some ⟨w.heap.size,0,none⟩),.pointer (some ⟨w.heap.size+1+1+1+1+1,0,none⟩),.pointer (some ⟨w.heap.size+1+1+1+1+1+1+1,0,none⟩),.pointer (some ⟨w.heap.size+1+1+1+1+1+1,0,none⟩),.pointer (some ⟨w.heap.size+1+1,0,none⟩)]] 48)) fun e w'=>e=.returned (.int .i64 (cz N (t.sb sg)))/\Below w.heap.size w w'):=by
  have hbw:Below w.heap.size w ((((((((w.alloc (.cells #[.pointer (some ⟨h,0,none⟩)] 68)).alloc (.cells #[.int .i64 tk,.int .i64 tv,.string ts,.bool tn,.slice tA ta tc,.slice tB td te,.slice tX tl tq] 27)).alloc (.cells #[.int .i64 (N:Int)] 3)).alloc (.map #[] 0)).alloc (.map #[] 0)).alloc (.cells #[.map (some (w.heap.size+1+1+1))] 67)).alloc (.cells #[.map (some (w.heap.size+1+1+1+1))] 108)).alloc (.cells #[.func (.func 62) #[] #[.pointer (some ⟨w.heap.size,0,none⟩),.pointer (some ⟨w.heap.size+1+1+1+1+1,0,none⟩),.pointer (some ⟨w.heap.size+1+1+1+1+1+1+1,0,none⟩),.pointer (some ⟨w.heap.size+1+1+1+1+1+1,0,none⟩),.pointer (some ⟨w.heap.size+1+1,0,none⟩)]] 48)):=((((((((Below.refl _ w).alloc (Nat.le_refl _) _).alloc (by simp) _).alloc (by simp;omega) _).alloc (by simp;omega) _).alloc (by simp;omega) _).alloc (by simp;omega) _).alloc (by simp;omega) _).alloc (by simp;omega) _;refine (yj hN hN2 hB hU hW hg _ t _ (Nat.lt_succ_self _) ht hc ((((((((w.alloc (.cells #[.pointer (some ⟨h,0,none⟩)] 68)).alloc (.cells #[.int .i64 tk,.int .i64 tv,.string ts,.bool tn,.slice tA ta tc,.slice tB td te,.slice tX tl tq] 27)).alloc (.cells #[.int .i64 (N:Int)] 3)).alloc (.map #[] 0)).alloc (.map #[] 0)).alloc (.cells #[.map (some (w.heap.size+1+1+1))] 67)).alloc (.cells #[.map (some (w.heap.size+1+1+1+1))] 108)).alloc (.cells #[.func (.func 62) #[] #[.pointer (some ⟨w.heap.size,0,none⟩),.pointer (some ⟨w.heap.size+1+1+1+1+1,0,none⟩),.pointer (some ⟨w.heap.size+1+1+1+1+1+1+1,0,none⟩),.pointer (some ⟨w.heap.size+1+1+1+1+1+1,0,none⟩),.pointer (some ⟨w.heap.size+1+1,0,none⟩)]] 48)) (b1:=w.heap.size) (b2:=w.heap.size+1+1+1+1+1) (b3:=w.heap.size+1+1+1+1+1+1+1) (b4:=w.heap.size+1+1+1+1+1+1) (b5:=w.heap.size+1+1) (ms:=w.heap.size+1+1+1) (mn:=w.heap.size+1+1+1+1) ⟨⟨68,?_⟩,⟨67,?_⟩,⟨48,?_⟩,⟨108,?_⟩,⟨3,?_⟩,hS.below hbw,hbw,by omega,⟨by omega,by omega⟩,⟨0,_,.empty (c:=0) ?_,fun u x h=>(by cases h)⟩,⟨0,_,.empty (c:=0) ?_,fun u x h=>(by cases h)⟩⟩).mono ?_
  ·unfold af;repeat (first|exact aS (by simp)|rw[aH (by simp<;>omega)])
  ·unfold af;repeat (first|exact aS (by simp)|rw[aH (by simp<;>omega)])
  ·unfold af;repeat (first|exact aS (by simp)|rw[aH (by simp<;>omega)])
  ·unfold af;repeat (first|exact aS (by simp)|rw[aH (by simp<;>omega)])
  ·unfold af;repeat (first|exact aS (by simp)|rw[aH (by simp<;>omega)])
  ·rw[aH (by simp<;>omega),aH (by simp<;>omega),aH (by simp<;>omega),aH (by simp<;>omega)];exact aS (by simp)
  ·repeat (first|exact aS (by simp)|rw[aH (by simp<;>omega)])
  rintro e w' ⟨rfl,g,hk⟩;exact⟨rfl,g.b⟩
 clear hS hB hU hW hg ht hc;go_enter Tryz.func38,Tryz.ntmps38;go_wp2_with fail;refine HRUN.out.mono ?_;rintro e w2 ⟨rfl,hb⟩;have HB:=zH hb;clear hb hst;go_wp2_with fail;go_ret;exact⟨rfl,HB.out⟩
end
end Go.Proofs.YtlhojoefhannnaaGreat
namespace Go.Proofs.YtlhojoefhannnaaGreat
open Go.ChangeShapes Go.WideShapes Go.ChangeAt Go.RowKit Go.Joins Go.Deep NumB
theorem mi {H:Type} {enc:TypeId×Value->H} {W:World} {base:Nat} {v:Value} {d:DataW H} {p:List MemPlace}
 (hv:Value.okWide Tryz.prog W .any base 27 v) (h:DataW.Trod enc Tryz.prog W 0 (fun _=>true) true 27 v d p):∃ t cs,v=.agg cs.toArray/\TC W t cs:=by
 obtain⟨cs,rfl,hsz⟩:=okWide_struct Tryz.underlying27 hv;obtain⟨fuel,hf⟩:=h;obtain⟨t,ht⟩:=sF fuel _ _ hf;exact⟨t,cs.toList,rfl,ht⟩
end Go.Proofs.YtlhojoefhannnaaGreat
namespace Go.Proofs.YtlhojoefhannnaaGreat.LawTmUniGen
open Go.ChangeShapes Go.WideShapes Go.ChangeAt Go.RowKit NumB
theorem qy {H:Type} {U V ST E B n:Nat} {T:List TypeId} {d0 d1 d:DataW H} {D:List (DataW H)} (hu:Tryz.prog.underlying ST=some (.slice E)) (hB:Tryz.prog.bytesOf E=B)
 (h:(DataW.weightsEach Tryz.prog (U::V::ST::T) (d0::d1::d::D)).all (· <= reachBytes)=true) (hd:(d=.nil/\n=0)\/∃ es rs,d=.slice es rs/\es.length=n):n*B<=140737488351232:=by
 rw[DataW.weightsEach,List.all_append,Bool.and_eq_true]at h;exact qx hu hB h.2 hd
def Walk:Prop:=∀ (t0:Tm) (c0:List Value) (t1:Tm) (c1:List Value) (t2:List (Int×Tm)) (v2:Value) (w:World),TC w t0 c0->TC w t1 c1->BL w v2 t2->t2.length*120<=140737488351232->
 Calls Tryz.prog 3 #[.agg c0.toArray,.agg c1.toArray,v2] w fun e w'=>e=.returned (.bool true)/\Below w.heap.size w w'
theorem vf (hwalk:Walk) (H:Type) (enc:TypeId×Value->H) (W:World) (base:Nat) (args:Array Value) (ds gs:List (DataW H)) (before:List MemPlace)
 (hval:∀ (j:Nat) t v,Tryz.f3.params[j]?=some t->args[j]?=some v->Value.okWide Tryz.prog W .any base t v)
 (hW:DataW.Whole enc Tryz.prog Tryz.f3.params.toList Rows.termUnifierIsMostGeneralSpec.vars false W args.toList ds gs before) (TT:List TypeId) (hwt:(DataW.weightsEach Tryz.prog (Tryz.f3.params.toList++TT) (ds++gs)).all (· <= reachBytes)=true):
 Calls Tryz.prog 3 args W fun e W'=>∃ v,e=.returned v/\Rows.termUnifierIsMostGeneralSpec.post enc Tryz.prog Tryz.f3 false true false false W args v W':=by
 have hW':=hW;obtain⟨p,q,hA0,hV,rfl,hfz,hnd⟩:=hW;have hA:DataW.TrodAll enc Tryz.prog W 0 (fun _=>true) true Tryz.f3.params.toList args.toList ds p:=hA0;have hA1:=hA;clear hA0;rw[Tryz.params3]at hA hval hwt;obtain⟨v0,vs0,d0,ds0,p0,q0,hargs,rfl,rfl,h0,r0⟩:=trodAll_cons hA;obtain⟨v1,vs1,d1,ds1,p1,q1,rfl,rfl,rfl,h1,r1⟩:=trodAll_cons r0;obtain⟨v2,vs2,d2,ds2,p2,q2,rfl,rfl,rfl,h2,r2⟩:=trodAll_cons r1;obtain⟨rfl,rfl,rfl⟩:=trodAll_nil r2;obtain rfl:args=#[v0,v1,v2]:=by cases args;simp_all
 obtain⟨rfl,rfl⟩:=trodVars_none hV;obtain⟨t0,c0,rfl,hx0⟩:=mi (hval 0 27 v0 rfl rfl) h0;obtain⟨t1,c1,rfl,hx1⟩:=mi (hval 1 27 v1 rfl rfl) h1;obtain⟨t2,hx2,hd2⟩:=ru (hval 2 28 v2 rfl rfl) h2;have hw2:=qy Tryz.underlying28 (B:=120) (by kernel_rfl) hwt hd2;simp only[List.append_nil]at hW' hA1;refine (hwalk t0 c0 t1 c1 t2 _ W hx0 hx1 hx2 hw2).mono fun e W' ⟨he,hb⟩=>?_;subst he;refine⟨_,rfl,vT rfl hW' hA1 ?_ rfl rfl hb⟩;rw[Tryz.params3];intro t ht;have hm:t∈[27,27,28]:=by simpa using ht
 have hall:([27,27,28].all fun u=>Tryz.prog.readableRec u&&decide (u<Tryz.prog.types.size))=true:=by kernel_rfl
 have:=List.all_eq_true.1 hall t hm;simp only[Bool.and_eq_true,decide_eq_true_eq]at this;exact this
def Ai:Array Value:=#[.agg #[.int .i64 0,.int .i64 0,.string ⟨#[]⟩,.bool false,.slice none 0 0,.slice none 0 0,.slice none 0 0],.agg #[.int .i64 0,.int .i64 0,.string ⟨#[]⟩,.bool false,.slice none 0 0,.slice none 0 0,.slice none 0 0],.slice none 0 0]
theorem vK (os:Os):laidMet Tryz.prog Rows.termUnifierIsMostGeneralRow.laid ((World.laidAll Tryz.prog os Rows.termUnifierIsMostGeneralRow.laid).forCall (fun _ _=>0) ⟨#[],Ai,[]⟩).memory:=
 laidMet_laidAll Ai (by kernel_rfl) (by kernel_rfl)
theorem Ae (os:Os) {H:Type} (enc:TypeId×Value->H):∃ ds places,DataW.whole enc Tryz.prog ((World.laidAll Tryz.prog os Rows.termUnifierIsMostGeneralRow.laid).forCall (fun _ _=>0) ⟨#[],Ai,[]⟩).memory Tryz.f3.params.toList Rows.termUnifierIsMostGeneralSpec.vars false Ai.toList 8=some (ds,[],places):=
 ⟨[.agg [.lit (.int .i64 0),.lit (.int .i64 0),.lit (.string []),.agg [.lit (.bool false),.nil,.nil],.nil],.agg [.lit (.int .i64 0),.lit (.int .i64 0),.lit (.string []),.agg [.lit (.bool false),.nil,.nil],.nil],.nil],[],by kernel_rfl⟩
theorem yZ (hwalk:Walk) (os:Os) (started:os.Started) (H:Type) (enc:TypeId×Value->H) (F:Stop.Interp):
 ReturnsInHanded {} Tryz.checked os 3 .any ((OpenSpec.ofChange Rows.termUnifierIsMostGeneralSpec).preRow enc Tryz.prog Tryz.f3 Rows.termUnifierIsMostGeneralRow.domain false Rows.termUnifierIsMostGeneralRow.laid) (((OpenSpec.ofChange Rows.termUnifierIsMostGeneralSpec).at F).post enc Tryz.prog Tryz.f3 false true false false):=by
 obtain⟨ds,places,hx⟩:=Ae os enc;refine returnsInHanded_of_row (C:=Tryz.checked) (s:=OpenSpec.ofChange Rows.termUnifierIsMostGeneralSpec) Al started (by kernel_rfl) Tryz.func3
  (witness_row_at (enc:=enc) (C:=Tryz.checked) false (World.laidAll Tryz.prog os Rows.termUnifierIsMostGeneralRow.laid) Ai rfl (by kernel_rfl) (by kernel_rfl) (by kernel_rfl)
   (OpenSpec.preRow_of_cond 8 hx (by kernel_rfl) (fun k hk=>by cases hk) (by kernel_rfl) (vK os))) ?_
 intro W base args ds gs before hval hW _ _ hwt hL _ _;exact vf hwalk H enc W base args ds gs before hval hW _ hwt
theorem said (hwalk:Walk):Rows.TermUnifierIsMostGeneralSaid:=
 OpenClaim.holds_of_cond 3 Tryz.f3 rfl rfl rfl rfl rfl rfl rfl ⟨rfl,rfl,rfl,rfl,rfl⟩ rfl rfl rfl rfl rfl (by kernel_rfl) Tryz.func3 (by kernel_rfl)
  (of_decide_eq_true (by kernel_rfl)) (by unfold Func.isWrapper;first|(rw[if_pos (by decide +kernel)];kernel_rfl)|(rw[if_neg (by decide +kernel)];exact⟨rfl,rfl⟩))
  (fun os started H enc _ F=>by rw[OpenClaim.pre_eq_preRow];exact yZ hwalk os started H enc F)
end Go.Proofs.YtlhojoefhannnaaGreat.LawTmUniGen

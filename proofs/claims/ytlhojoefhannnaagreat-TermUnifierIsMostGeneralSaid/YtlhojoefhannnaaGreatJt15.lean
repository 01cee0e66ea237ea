/- term.Apply: variables replaced by the terms of bindings. And 6 more texts. -/
import Derived.Maps.RangeWalk
import Derived.Test.YtlhojoefhannnaaGreatJt14
set_option linter.unusedVariables false
set_option linter.unusedSimpArgs false
set_option maxRecDepth 100000
set_option maxHeartbeats 51200000
namespace Go.Proofs.YtlhojoefhannnaaGreat
open Go.RowKit NumB
theorem BL.to {w w':World} {v:Value} {ts:List (Int×Tm)} (h:BL w v ts) (hb:Below w.heap.size w w'):BL w' v ts:=by
 obtain⟨Ar,cap,cs,e,h1,h2,h3,h4⟩:=h;refine⟨Ar,cap,cs,e,h1,h2,fun h0=>?_,fun i hi=>?_⟩
 ·obtain⟨b,o,e,hlt,hc⟩:=h3 h0;exact⟨b,o,e,Nat.lt_of_lt_of_le hlt hb.size,fun i hi j hj=>(hb.cell (p:=⟨b,o+i*8+j,none⟩) hlt).trans (hc i hi j hj)⟩
 ·obtain⟨ct,e,hi,ht⟩:=h4 i hi;exact⟨ct,e,hi,ht.to hb⟩
theorem cr.zero (p:Nat->Prop) (w:World):cr p w .zero [.int .i64 0,.int .i64 0,.string ⟨#[]⟩,.bool false,.slice none 0 0,.slice none 0 0,.slice none 0 0]:=
 .mk 0 0 ⟨#[]⟩ ⟨false,[],[]⟩ [] (.slice none 0 0) (.slice none 0 0) none 0 (fun _=>[]) ⟨by decide,by decide⟩ ⟨by decide,by decide⟩ (by decide) (.nil_ p _) (.nil_ p _) ⟨Ok.nil,Ok.nil⟩ (Nat.le_refl _) (by decide) (fun h=>by simp at h) (fun i h=>by simp at h)
theorem yU {w:World} {bs:List (Int×Tm)} {bv:Value} (h:BL w bv bs) (hg:eB bs) {v:Int} {x:Tm} (hx:fnd bs v=some x):x.sm:=by
 obtain⟨j,hj,rfl⟩:=sn hx;obtain⟨Ar,cap,cs,e,h1,h2,h3,h4⟩:=h;obtain⟨ct,e,hi,ht⟩:=h4 j hj;exact ht.sm (aL (hg j hj).2).2
theorem tf {w:World} {t:Tm} {cs:List Value} (h:TC w t cs) {bs:List (Int×Tm)} {bv:Value} (hb:BL w bv bs) (hn:bs.length*120<=140737488351232) (W:World) (hW:Below w.heap.size w W):
 Calls Tryz.prog 5 #[.agg cs.toArray,bv] W fun e W'=>∃ cx tx er,e=.returned (.tuple #[.agg cx.toArray,.int .i64 er])/\cr (fun b=>b<w.heap.size\/W.heap.size<=b) W' tx cx/\aU t bs tx er/\Below W.heap.size W W':=by
 have HBL:=zH hb;have HTC:=zH h;have HC:Hid (∀ W',Below w.heap.size w W'->Calls Tryz.prog 12 #[.agg cs.toArray] W' fun e w'=>e=.returned (.int .i64 t.check)/\Below W'.heap.size W' w'):=fun W' hb=>ew h W' hb;have HS:t.check=0->Hid (∀ W',Below w.heap.size w W'->Calls Tryz.prog 17 #[.agg cs.toArray] W' fun e w'=>e=.returned (.int .i64 (t.count:Int))/\Below W'.heap.size W' w'):=fun hc W' hb=>mF h (by have:=(aL hc).1;omega) W' hb;have HNN:Hid ((bs.length:Int)*120<=140737488351232):=by show _<=_;omega
 have HGR:t.check=0->eB bs->Hid (∀ (bc:Nat) (W1:World),Below w.heap.size w W1->W1.cell? ⟨bc,0,none⟩=some bv->bc<W1.heap.size->Calls Tryz.prog 18 #[.agg cs.toArray,.func (.func 13) #[] #[.pointer (some ⟨bc,0,none⟩)]] W1 fun e W'=>e=.returned (.int .i64 (t.grow (fnd bs):Int))/\Below W1.heap.size W1 W'):=fun hc hg bc W1 hb1 hcell hlt=>
  tR (w:=W1) 13 bc (enters_of Tryz.func13 (by kernel_rfl) rfl) (fnd bs) (fun v x hx=>(hg.fnd hx).2) (fun v W2 hb2=>jU (hb.to hb1) HNN.out hg.incr bc hcell hlt v W2 hb2) (h.to hb1) (aL hc).1 W1 (Below.refl _ _)
 have HRP:t.check=0->eB bs->Hid (∀ (bc:Nat) (W1:World),Below w.heap.size w W1->W1.cell? ⟨bc,0,none⟩=some bv->bc<W1.heap.size->Calls Tryz.prog 19 #[.agg cs.toArray,.func (.func 13) #[] #[.pointer (some ⟨bc,0,none⟩)]] W1 fun e W'=>∃ cs',e=.returned (.agg cs'.toArray)/\fF (W1.heap.size+1) W' (t.repl (fnd bs)) cs'/\Below W1.heap.size W1 W'):=fun hc hg bc W1 hb1 hcell hlt=>
  hG (w:=W1) 13 bc (enters_of Tryz.func13 (by kernel_rfl) rfl) (fnd bs) (fun v x hx=>yU hb hg hx) (fun v W2 hb2=>jU (hb.to hb1) HNN.out hg.incr bc hcell hlt v W2 hb2) (h.to hb1) (h.sm (aL hc).2) W1 (Below.refl _ _)
 have HCN:t.check=0->(t.repl (fnd bs)).count=t.count+t.grow (fnd bs)/\t.count<=10000:=fun hc=>⟨t.count_repl _ (t.bare_of (aL hc).2),(aL hc).1⟩;have HGB:t.check=0->eB bs->t.grow (fnd bs)<=100000000:=fun hc hg=>by
  have:=t.grow_le (f:=fnd bs) (fun v x hx=>(hg.fnd hx).2);have:=(aL hc).1;omega
 have HR0:Hid (t.check≠0->aU t bs .zero t.check):=fun h=>.bad h;have HR1:Hid (t.check=0->¬eB bs->aU t bs .zero 2):=fun h h2=>.form h h2;have HR2:Hid (t.check=0->eB bs->10000<(t.repl (fnd bs)).count->aU t bs .zero 3):=fun h h2 h3=>.size h h2 h3;have HR3:Hid (t.check=0->eB bs->(t.repl (fnd bs)).count<=10000->aU t bs (t.repl (fnd bs)) 0):=fun h h2 h3=>.ok h h2 h3;obtain⟨k,v0,s,ng,A1,n1,c1,B1,m1,d1,Xr,xl,xc,hcs⟩:=h.form;subst hcs;obtain⟨Ab,cb,csb,rfl,hcap,hm,hrow,hba⟩:=hb;have HR:=zH hrow;have HA:=zH hba;have HWB:=zH hW;unfold maxLen at hm;obtain⟨n,hl⟩:∃ n,bs.length=n:=⟨_,rfl⟩;rw[hl]at hcap hn HGR HRP HBL ⊢;have HL:=zH hl;clear hl hrow hba hW h;generalize t.check=tk at*;generalize t.repl (fnd bs)=tr at*;generalize t.grow (fnd bs)=tg at*;generalize t.count=tc at*;have HB0:Hid (Below W.heap.size W (((W.alloc (.cells #[.int .i64 k,.int .i64 v0,.string s,.bool ng,.slice A1 n1 c1,.slice B1 m1 d1,.slice Xr xl xc] 27)).alloc (.cells #[.slice Ab n cb] 28)).alloc (.cells #[.int .i64 0,.int .i64 0,.string ⟨#[]⟩,.bool false,.slice none 0 0,.slice none 0 0,.slice none 0 0] 27))):=(am W _ _).alloc (by simp;omega) _;have HKT:Hid (af (((W.alloc (.cells #[.int .i64 k,.int .i64 v0,.string s,.bool ng,.slice A1 n1 c1,.slice B1 m1 d1,.slice Xr xl xc] 27)).alloc (.cells #[.slice Ab n cb] 28)).alloc (.cells #[.int .i64 0,.int .i64 0,.string ⟨#[]⟩,.bool false,.slice none 0 0,.slice none 0 0,.slice none 0 0] 27)) W.heap.size 27 #[.int .i64 k,.int .i64 v0,.string s,.bool ng,.slice A1 n1 c1,.slice B1 m1 d1,.slice Xr xl xc]):=((af.new W _ _).alloc _).alloc _;have HKB:Hid (af (((W.alloc (.cells #[.int .i64 k,.int .i64 v0,.string s,.bool ng,.slice A1 n1 c1,.slice B1 m1 d1,.slice Xr xl xc] 27)).alloc (.cells #[.slice Ab n cb] 28)).alloc (.cells #[.int .i64 0,.int .i64 0,.string ⟨#[]⟩,.bool false,.slice none 0 0,.slice none 0 0,.slice none 0 0] 27)) (W.heap.size+1) 28 #[.slice Ab n cb]):=(mR W _ _).alloc _;have HK0:Hid (af (((W.alloc (.cells #[.int .i64 k,.int .i64 v0,.string s,.bool ng,.slice A1 n1 c1,.slice B1 m1 d1,.slice Xr xl xc] 27)).alloc (.cells #[.slice Ab n cb] 28)).alloc (.cells #[.int .i64 0,.int .i64 0,.string ⟨#[]⟩,.bool false,.slice none 0 0,.slice none 0 0,.slice none 0 0] 27)) (W.heap.size+2) 27 #[.int .i64 0,.int .i64 0,.string ⟨#[]⟩,.bool false,.slice none 0 0,.slice none 0 0,.slice none 0 0]):=by
  have h2:=mR (W.alloc (.cells #[.int .i64 k,.int .i64 v0,.string s,.bool ng,.slice A1 n1 c1,.slice B1 m1 d1,.slice Xr xl xc] 27)) (.cells #[.slice Ab n cb] 28) (T:=27) #[.int .i64 0,.int .i64 0,.string ⟨#[]⟩,.bool false,.slice none 0 0,.slice none 0 0,.slice none 0 0];rw[show (W.alloc (.cells #[.int .i64 k,.int .i64 v0,.string s,.bool ng,.slice A1 n1 c1,.slice B1 m1 d1,.slice Xr xl xc] 27)).heap.size+1=W.heap.size+2 by simp]at h2;exact h2
 go_enter Tryz.func5,Tryz.ntmps5;go_wp2_with fail;refine (HC.out _ (by exact HWB.out.trans (HB0.out.mono HWB.out.size))).mono ?_;rintro e w1 ⟨rfl,hb1⟩;have HJ1:Hid (af w1 W.heap.size 27 #[.int .i64 k,.int .i64 v0,.string s,.bool ng,.slice A1 n1 c1,.slice B1 m1 d1,.slice Xr xl xc]/\af w1 (W.heap.size+1) 28 #[.slice Ab n cb]/\af w1 (W.heap.size+2) 27 #[.int .i64 0,.int .i64 0,.string ⟨#[]⟩,.bool false,.slice none 0 0,.slice none 0 0,.slice none 0 0]/\Below W.heap.size W w1):=⟨HKT.out.to hb1,HKB.out.to hb1,HK0.out.to hb1,HB0.out.trans (hb1.mono HB0.out.size)⟩;clear hb1 HB0 HKT HKB HK0 HC;by_cases hk:tk=0
 ·subst hk;have HSZ:=HS rfl;have HGRW:=HGR rfl;have HRPL:=HRP rfl;have HCNT:=zH (HCN rfl);have HGBD:=zH (HGB rfl);clear HS HGR HRP HCN HGB HR0;have yb:=HJ1.out.2.1.cell 0;simp only[List.getElem?_toArray,List.getElem?_cons_zero]at yb;go_wp2_with fail;clear yb
  go_loopg [7,20] n (fun gk s7 s20 wr=>∃ (j:Nat) (lw:Int),gk+j=n/\s20=.int .i64 (j:Int)/\s7=.int .i64 lw/\Hid (lw=fg bs j)/\Hid (∀ q (hq:q<bs.length),q<j->fg bs q<(bs[q]).1/\(bs[q]).2.check=0)/\Hid (af wr W.heap.size 27 #[.int .i64 k,.int .i64 v0,.string s,.bool ng,.slice A1 n1 c1,.slice B1 m1 d1,.slice Xr xl xc]/\af wr (W.heap.size+1) 28 #[.slice Ab n cb]/\af wr (W.heap.size+2) 27 #[.int .i64 0,.int .i64 0,.string ⟨#[]⟩,.bool false,.slice none 0 0,.slice none 0 0,.slice none 0 0]/\Below W.heap.size W wr))
  case atStart=>exact⟨0,_,by omega,rfl,rfl,rfl,fun q _ h=>absurd h (by omega),HJ1.out⟩
  case round=>
   clear HJ1;obtain⟨j,lw,hgj,rfl,rfl,HLW,HN,HJ⟩:=hrel;by_cases hj:j<n
   ·clear HSZ HGRW HRPL HCNT HGBD HR2 HR3;have hja:j<bs.length:=by rw[HL.out];exact hj
    have HBW:=HWB.out.trans (HJ.out.2.2.2.mono HWB.out.size);obtain⟨b,o,k5,v5,st5,ng5,A5,n5,c5,B5,m5,d5,X5,l5,e5,hAr,htc,hlt,y0,y1,y2,y3,y4,y5,y6,y7⟩:=dR HR.out HA.out HBW hja;subst hAr;have HCB:Hid (∀ W',Below w.heap.size w W'->Calls Tryz.prog 12 #[.agg #[.int .i64 k5,.int .i64 v5,.string st5,.bool ng5,.slice A5 n5 c5,.slice B5 m5 d5,.slice X5 l5 e5]] W' fun e w'=>e=.returned (.int .i64 (bs[j]).2.check)/\Below W'.heap.size W' w'):=fun W' hb=>ew htc W' hb;have HBAD1:Hid ((bs[j]).1<=lw->¬eB bs):=fun hle hg=>by have:=(hg j hja).1;have:=HLW.out;omega
    have HBAD2:Hid ((bs[j]).2.check≠0->¬eB bs):=fun hne hg=>hne (hg j hja).2;have HNX:Hid (¬(bs[j]).1<=lw->(bs[j]).2.check=0->(bs[j]).1=fg bs (j+1)/\∀ q (hq:q<bs.length),q<j+1->fg bs q<(bs[q]).1/\(bs[q]).2.check=0):=fun h1 h2=>⟨(ei hja).symm,fun q hq hl=>by
     by_cases e:q=j
     ·subst e;exact⟨by have:=HLW.out;omega,h2⟩
     ·exact HN.out q hq (by omega)⟩
    generalize (bs[j]).2.check=ck at*;generalize (bs[j]).1=x at*;have HJ8:Hid (af (wr.alloc (.cells #[.int .i64 x,.int .i64 k5,.int .i64 v5,.string st5,.bool ng5,.slice A5 n5 c5,.slice B5 m5 d5,.slice X5 l5 e5] 37)) W.heap.size 27 #[.int .i64 k,.int .i64 v0,.string s,.bool ng,.slice A1 n1 c1,.slice B1 m1 d1,.slice Xr xl xc]/\af (wr.alloc (.cells #[.int .i64 x,.int .i64 k5,.int .i64 v5,.string st5,.bool ng5,.slice A5 n5 c5,.slice B5 m5 d5,.slice X5 l5 e5] 37)) (W.heap.size+1) 28 #[.slice (some ⟨b,o,none⟩) n cb]/\af (wr.alloc (.cells #[.int .i64 x,.int .i64 k5,.int .i64 v5,.string st5,.bool ng5,.slice A5 n5 c5,.slice B5 m5 d5,.slice X5 l5 e5] 37)) (W.heap.size+2) 27 #[.int .i64 0,.int .i64 0,.string ⟨#[]⟩,.bool false,.slice none 0 0,.slice none 0 0,.slice none 0 0]/\Below W.heap.size W (wr.alloc (.cells #[.int .i64 x,.int .i64 k5,.int .i64 v5,.string st5,.bool ng5,.slice A5 n5 c5,.slice B5 m5 d5,.slice X5 l5 e5] 37))):=⟨HJ.out.1.to (I wr _),HJ.out.2.1.to (I wr _),HJ.out.2.2.1.to (I wr _),HJ.out.2.2.2.trans ((I wr _).mono HJ.out.2.2.2.size)⟩;have HK9:Hid (af (wr.alloc (.cells #[.int .i64 x,.int .i64 k5,.int .i64 v5,.string st5,.bool ng5,.slice A5 n5 c5,.slice B5 m5 d5,.slice X5 l5 e5] 37)) wr.heap.size 37 #[.int .i64 x,.int .i64 k5,.int .i64 v5,.string st5,.bool ng5,.slice A5 n5 c5,.slice B5 m5 d5,.slice X5 l5 e5]):=af.new wr _ _;clear htc hlt hja HLW HN HBW;by_cases hx:x<=lw
    ·have HBAD:=zH (HR1.out (by trivial) (HBAD1.out hx));have HKZ:Hid (af (wr.alloc (.cells #[.int .i64 x,.int .i64 k5,.int .i64 v5,.string st5,.bool ng5,.slice A5 n5 c5,.slice B5 m5 d5,.slice X5 l5 e5] 37)) (W.heap.size+2) 27 #[.int .i64 0,.int .i64 0,.string ⟨#[]⟩,.bool false,.slice none 0 0,.slice none 0 0,.slice none 0 0]):=HJ8.out.2.2.1;have hxd:decide (x<=lw)=true:=by simp[hx]
     clear HBAD1 HBAD2 HNX HCB HJ;obtain⟨r0,r1,r2,r3,r4,r5,r6⟩:=HKZ.out.s7;obtain⟨z0,z1,z2,z3,z4,z5,z6⟩:=HKZ.out.z7;go_wp2_with fail;refine bodyPost_ret (v:=.tuple #[.agg #[.int .i64 0,.int .i64 0,.string ⟨#[]⟩,.bool false,.slice none 0 0,.slice none 0 0,.slice none 0 0],.int .i64 2]) (by rw[results_cell_tmp rfl];go_simp) rfl ?_;exact⟨[.int .i64 0,.int .i64 0,.string ⟨#[]⟩,.bool false,.slice none 0 0,.slice none 0 0,.slice none 0 0],.zero,2,rfl,cr.zero _ _,HBAD.out,(((((((HJ8.out.2.2.2.setCell (Nat.le_add_right _ 2) _).setCell (Nat.le_add_right _ 2) _).setCell (Nat.le_add_right _ 2) _).setCell (Nat.le_add_right _ 2) _).setCell (Nat.le_add_right _ 2) _).setCell (Nat.le_add_right _ 2) _).setCell (Nat.le_add_right _ 2) _)⟩
    ·have hxd:decide (x<=lw)=false:=by simp[hx]
     have HNX2:=zH (HNX.out hx);clear HBAD1 HNX HJ hx;go_wp2_with fail;refine (HCB.out _ (by exact HWB.out.trans (HJ8.out.2.2.2.mono HWB.out.size))).mono ?_;rintro e w5 ⟨rfl,hb5⟩;have HJ5:Hid (af w5 W.heap.size 27 #[.int .i64 k,.int .i64 v0,.string s,.bool ng,.slice A1 n1 c1,.slice B1 m1 d1,.slice Xr xl xc]/\af w5 (W.heap.size+1) 28 #[.slice (some ⟨b,o,none⟩) n cb]/\af w5 (W.heap.size+2) 27 #[.int .i64 0,.int .i64 0,.string ⟨#[]⟩,.bool false,.slice none 0 0,.slice none 0 0,.slice none 0 0]/\Below W.heap.size W w5):=⟨HJ8.out.1.to hb5,HJ8.out.2.1.to hb5,HJ8.out.2.2.1.to hb5,HJ8.out.2.2.2.trans (hb5.mono HJ8.out.2.2.2.size)⟩;have HK5:=zH (HK9.out.to hb5);clear hb5 HJ8 HK9 HCB y0 y1 y2 y3 y4 y5 y6 y7;by_cases hck:ck=0
     ·subst hck;have HNX3:=zH (HNX2.out rfl);have x0:=HK5.out.cell 0;simp only[List.getElem?_toArray,List.getElem?_cons_zero]at x0;clear HNX2 HBAD2;go_wp2_with fail
      go_roundg (gk-1)
      case measure=>omega
      case rel=>exact⟨j+1,x,by omega,by go_num,rfl,HNX3.out.1,HNX3.out.2,HJ5.out⟩
     ·have HBAD:=zH (HR1.out (by trivial) (HBAD2.out hck));have hcb:(ck==0)=false:=beq_eq_false_iff_ne.2 hck;have HKZ:Hid (af w5 (W.heap.size+2) 27 #[.int .i64 0,.int .i64 0,.string ⟨#[]⟩,.bool false,.slice none 0 0,.slice none 0 0,.slice none 0 0]):=HJ5.out.2.2.1;clear HBAD2 HNX2 hck;obtain⟨r0,r1,r2,r3,r4,r5,r6⟩:=HKZ.out.s7;obtain⟨z0,z1,z2,z3,z4,z5,z6⟩:=HKZ.out.z7;go_wp2_with fail;refine bodyPost_ret (v:=.tuple #[.agg #[.int .i64 0,.int .i64 0,.string ⟨#[]⟩,.bool false,.slice none 0 0,.slice none 0 0,.slice none 0 0],.int .i64 2]) (by rw[results_cell_tmp rfl];go_simp) rfl ?_;exact⟨[.int .i64 0,.int .i64 0,.string ⟨#[]⟩,.bool false,.slice none 0 0,.slice none 0 0,.slice none 0 0],.zero,2,rfl,cr.zero _ _,HBAD.out,(((((((HJ5.out.2.2.2.setCell (Nat.le_add_right _ 2) _).setCell (Nat.le_add_right _ 2) _).setCell (Nat.le_add_right _ 2) _).setCell (Nat.le_add_right _ 2) _).setCell (Nat.le_add_right _ 2) _).setCell (Nat.le_add_right _ 2) _).setCell (Nat.le_add_right _ 2) _)⟩
   ·obtain rfl:n=j:=by omega
    have HG:Hid (eB bs):=fun q hq=>HN.out q hq (by rw[<-HL.out];exact hq);have HGRW:=HGRW HG.out;have HRPL:=HRPL HG.out;have hgb:=HGBD.out HG.out;have hcnt:=HCNT.out.2;have hctr:=HCNT.out.1;have HR2:=zH (HR2.out (by trivial) HG.out);have HR3:=zH (HR3.out (by trivial) HG.out);rw[hctr]at HR2 HR3;have HKT:Hid (af wr W.heap.size 27 #[.int .i64 k,.int .i64 v0,.string s,.bool ng,.slice A1 n1 c1,.slice B1 m1 d1,.slice Xr xl xc]):=HJ.out.1;clear HN HLW HG HCNT HGBD HR1 hctr;obtain⟨y0,y1,y2,y3,y4,y5,y6⟩:=HKT.out.s7;go_wp2_with fail;refine (HSZ.out _ (by exact HWB.out.trans (HJ.out.2.2.2.mono HWB.out.size))).mono ?_;rintro e w5 ⟨rfl,hb5⟩;have HJ5:Hid (af w5 W.heap.size 27 #[.int .i64 k,.int .i64 v0,.string s,.bool ng,.slice A1 n1 c1,.slice B1 m1 d1,.slice Xr xl xc]/\af w5 (W.heap.size+1) 28 #[.slice Ab n cb]/\af w5 (W.heap.size+2) 27 #[.int .i64 0,.int .i64 0,.string ⟨#[]⟩,.bool false,.slice none 0 0,.slice none 0 0,.slice none 0 0]/\Below W.heap.size W w5):=⟨HJ.out.1.to hb5,HJ.out.2.1.to hb5,HJ.out.2.2.1.to hb5,HJ.out.2.2.2.trans (hb5.mono HJ.out.2.2.2.size)⟩;have HKT5:Hid (af w5 W.heap.size 27 #[.int .i64 k,.int .i64 v0,.string s,.bool ng,.slice A1 n1 c1,.slice B1 m1 d1,.slice Xr xl xc]):=HJ5.out.1;clear hb5 HJ HKT HSZ y0 y1 y2 y3 y4 y5 y6;obtain⟨y0,y1,y2,y3,y4,y5,y6⟩:=HKT5.out.s7;go_wp2_with fail;have cb5:=HJ5.out.2.1.cell 0;refine (HGRW.out _ w5 (by exact HWB.out.trans (HJ5.out.2.2.2.mono HWB.out.size)) (by exact cb5) (by exact HJ5.out.2.1.lt)).mono ?_;rintro e w6 ⟨rfl,hb6⟩;have HJ6:Hid (af w6 W.heap.size 27 #[.int .i64 k,.int .i64 v0,.string s,.bool ng,.slice A1 n1 c1,.slice B1 m1 d1,.slice Xr xl xc]/\af w6 (W.heap.size+1) 28 #[.slice Ab n cb]/\af w6 (W.heap.size+2) 27 #[.int .i64 0,.int .i64 0,.string ⟨#[]⟩,.bool false,.slice none 0 0,.slice none 0 0,.slice none 0 0]/\Below W.heap.size W w6):=⟨HJ5.out.1.to hb6,HJ5.out.2.1.to hb6,HJ5.out.2.2.1.to hb6,HJ5.out.2.2.2.trans (hb6.mono HJ5.out.2.2.2.size)⟩;have HKT6:Hid (af w6 W.heap.size 27 #[.int .i64 k,.int .i64 v0,.string s,.bool ng,.slice A1 n1 c1,.slice B1 m1 d1,.slice Xr xl xc]):=HJ6.out.1;have HKZ:Hid (af w6 (W.heap.size+2) 27 #[.int .i64 0,.int .i64 0,.string ⟨#[]⟩,.bool false,.slice none 0 0,.slice none 0 0,.slice none 0 0]):=HJ6.out.2.2.1;clear hb6 HJ5 HKT5 HGRW y0 y1 y2 y3 y4 y5 y6 cb5;obtain⟨y0,y1,y2,y3,y4,y5,y6⟩:=HKT6.out.s7;by_cases hbig:10000<tc+tg
    ·have hbi:(10000:Int)<(tc:Int)+(tg:Int):=by omega
     have HR9:=zH (HR2.out hbig);clear hbig HR2 HR3 HRPL;obtain⟨r0,r1,r2,r3,r4,r5,r6⟩:=HKZ.out.s7;obtain⟨z0,z1,z2,z3,z4,z5,z6⟩:=HKZ.out.z7;go_wp2_with fail;refine bodyPost_ret (v:=.tuple #[.agg #[.int .i64 0,.int .i64 0,.string ⟨#[]⟩,.bool false,.slice none 0 0,.slice none 0 0,.slice none 0 0],.int .i64 3]) (by rw[results_cell_tmp rfl];go_simp) rfl ?_;exact⟨[.int .i64 0,.int .i64 0,.string ⟨#[]⟩,.bool false,.slice none 0 0,.slice none 0 0,.slice none 0 0],.zero,3,rfl,cr.zero _ _,HR9.out,(((((((HJ6.out.2.2.2.setCell (Nat.le_add_right _ 2) _).setCell (Nat.le_add_right _ 2) _).setCell (Nat.le_add_right _ 2) _).setCell (Nat.le_add_right _ 2) _).setCell (Nat.le_add_right _ 2) _).setCell (Nat.le_add_right _ 2) _).setCell (Nat.le_add_right _ 2) _)⟩
    ·have hbi:¬(10000:Int)<(tc:Int)+(tg:Int):=by omega
     have HR9:=zH (HR3.out (Nat.le_of_not_lt hbig));clear hbig HR2 HR3;go_wp2_with fail;have cb6:=HJ6.out.2.1.cell 0;refine (HRPL.out _ w6 (by exact HWB.out.trans (HJ6.out.2.2.2.mono HWB.out.size)) (by exact cb6) (by exact HJ6.out.2.1.lt)).mono ?_;rintro e w8 ⟨cx8,rfl,ht8,hb8⟩;obtain⟨k8,v8,st8,ng8,A8,n8,c8,B8,m8,d8,X8,l8,e8,hf8⟩:=ht8.tc.form;subst hf8;have HB8:Hid (Below W.heap.size W w8):=HJ6.out.2.2.2.trans (hb8.mono HJ6.out.2.2.2.size);have HK8:=zH (HKZ.out.to hb8);have HT8:=zH ht8;have HLT:=zH HKZ.out.lt;clear hb8 ht8 HJ6 HKT6 HKZ HRPL cb6 y0 y1 y2 y3 y4 y5 y6;obtain⟨r0,r1,r2,r3,r4,r5,r6⟩:=HK8.out.s7;obtain⟨z0,z1,z2,z3,z4,z5,z6⟩:=HK8.out.z7;go_wp2_with fail;refine bodyPost_ret (v:=.tuple #[.agg #[.int .i64 k8,.int .i64 v8,.string st8,.bool ng8,.slice A8 n8 c8,.slice B8 m8 d8,.slice X8 l8 e8],.int .i64 0]) (by rw[results_cell_tmp rfl];go_simp) rfl ?_;refine⟨[.int .i64 k8,.int .i64 v8,.string st8,.bool ng8,.slice A8 n8 c8,.slice B8 m8 d8,.slice X8 l8 e8],tr,0,rfl,((cr.of_tcf HT8.out).to (by simp) fun b hb _=>?_).mono fun b hb _=>Or.inr ?_,HR9.out,(((((((HB8.out.setCell (Nat.le_add_right _ 2) _).setCell (Nat.le_add_right _ 2) _).setCell (Nat.le_add_right _ 2) _).setCell (Nat.le_add_right _ 2) _).setCell (Nat.le_add_right _ 2) _).setCell (Nat.le_add_right _ 2) _).setCell (Nat.le_add_right _ 2) _)⟩
     ·have hb:w6.heap.size+1<=b:=hb;have hbr:b≠W.heap.size+2:=by have:=HLT.out;omega
      repeat rw[Below.heap_setCell _ _ _ b hbr]
     ·have hb:w6.heap.size+1<=b:=hb;have:=HLT.out;omega
 ·have HBAD:=zH (HR0.out hk);have hkb:(tk==0)=false:=beq_eq_false_iff_ne.2 hk;have HKZ:Hid (af w1 (W.heap.size+2) 27 #[.int .i64 0,.int .i64 0,.string ⟨#[]⟩,.bool false,.slice none 0 0,.slice none 0 0,.slice none 0 0]):=HJ1.out.2.2.1;clear HS HGR HRP HCN HGB HR0 HR1 HR2 HR3 hk;obtain⟨r0,r1,r2,r3,r4,r5,r6⟩:=HKZ.out.s7;obtain⟨z0,z1,z2,z3,z4,z5,z6⟩:=HKZ.out.z7;go_wp2_with fail;refine bodyPost_ret (v:=.tuple #[.agg #[.int .i64 0,.int .i64 0,.string ⟨#[]⟩,.bool false,.slice none 0 0,.slice none 0 0,.slice none 0 0],.int .i64 tk]) (by rw[results_cell_tmp rfl];go_simp) rfl ?_;exact⟨[.int .i64 0,.int .i64 0,.string ⟨#[]⟩,.bool false,.slice none 0 0,.slice none 0 0,.slice none 0 0],.zero,tk,rfl,cr.zero _ _,HBAD.out,(((((((HJ1.out.2.2.2.setCell (Nat.le_add_right _ 2) _).setCell (Nat.le_add_right _ 2) _).setCell (Nat.le_add_right _ 2) _).setCell (Nat.le_add_right _ 2) _).setCell (Nat.le_add_right _ 2) _).setCell (Nat.le_add_right _ 2) _).setCell (Nat.le_add_right _ 2) _)⟩
def zL (v:Value):Option (DataW Value×List MemPlace):=some (.held v,[])
def eH (x:Int×List Value):Lit×DataW Value:=(.int .i64 x.1,.held (.agg x.2.toArray))
def dp {α:Type} (x:Int×α):List (Int×α)->List (Int×α)
 |[]=>[x]
 |y::r=>if x.1<y.1 then x::y::r else y::dp x r
theorem py {α:Type} (x:Int×α) (l:List (Int×α)):(dp x l).length=l.length+1:=by
 induction l with
 |nil=>rfl
 |cons y r ih=>rw[dp];split<;>simp[ih]
inductive fG (w:World):List (Int×List Value)->List (Int×Tm)->Prop
 |nil:fG w [] []
 |cons {v:Int} {cx:List Value} {t:Tm} {zs:List (Int×List Value)} {bs:List (Int×Tm)} (hv:an v) (h:TC w t cx) (hr:fG w zs bs):fG w ((v,cx)::zs) ((v,t)::bs)
theorem fG.len {w:World} {zs:List (Int×List Value)} {bs:List (Int×Tm)} (h:fG w zs bs):zs.length=bs.length:=by
 induction h with
 |nil=>rfl
 |cons _ _ _ ih=>simp[ih]
theorem fG.ins {w:World} {zs:List (Int×List Value)} {bs:List (Int×Tm)} (h:fG w zs bs) {v:Int} {cx:List Value} {t:Tm} (hv:an v) (ht:TC w t cx):fG w (dp (v,cx) zs) (dp (v,t) bs):=by
 induction h with
 |nil=>exact .cons hv ht .nil
 |@cons v' cx' t' zs bs hv' h' hr ih=>
  rw[dp,dp]
  split
  ·exact .cons hv ht (.cons hv' h' hr)
  ·exact .cons hv' h' ih
theorem fG.at {w:World} {zs:List (Int×List Value)} {bs:List (Int×Tm)} (h:fG w zs bs) (v:Int):(fnd bs v=none/\∀ z,(DataW.map (zs.map eH)).atKey (.int .i64 v) z=z)\/∃ x cx,fnd bs v=some x/\TC w x cx/\∀ z,(DataW.map (zs.map eH)).atKey (.int .i64 v) z=.held (.agg cx.toArray):=by
 induction h with
 |nil=>exact .inl ⟨rfl,fun z=>rfl⟩
 |@cons v' cx' t' zs bs hv' h' hr ih=>
  by_cases e:v'=v
  ·subst e;refine .inr ⟨t',cx',by simp[fnd],h',fun z=>?_⟩;simp[DataW.atKey,eH,Lit.sameKey]
  ·rcases ih with ⟨h1,h2⟩|⟨x,cx,h1,h2,h3⟩
   ·refine .inl ⟨by simpa[fnd,e] using h1,fun z=>?_⟩;have:=h2 z;simpa[DataW.atKey,eH,Lit.sameKey,e] using this
   ·refine .inr ⟨x,cx,by simpa[fnd,e] using h1,h2,fun z=>?_⟩;have:=h3 z;simpa[DataW.atKey,eH,Lit.sameKey,e] using this
theorem qP {w:World} {zs:List (Int×List Value)} {bs:List (Int×Tm)} (h:fG w zs bs) {v:Int} (hn:fnd bs v=none):((zs.map eH).filter fun p=>!p.1.sameKey (.int .i64 v))=zs.map eH:=by
 induction h with
 |nil=>rfl
 |@cons v' cx' t' zs bs hv' h' hr ih=>
  have e:¬v'=v:=fun e=>by subst e;simp[fnd]at hn
  have:=ih (by simpa[fnd,e] using hn);simp[eH,Lit.sameKey,e];simpa[eH,Lit.sameKey] using this
theorem qX (x:Int×List Value) (zs:List (Int×List Value)):DataW.insert (eH x) (zs.map eH)=(dp x zs).map eH:=by
 induction zs with
 |nil=>rfl
 |cons y r ih=>
  rw[List.map_cons,DataW.insert,dp,ih];by_cases h:x.1<y.1
  ·simp[eH,Lit.before,h]
  ·simp[eH,Lit.before,h]
def dG (w0 w:World) (b:Nat) (bs:List (Int×Tm)):Prop:=
 ∃ zs,w.ownsMap Tryz.prog 3 zL b bs.length (.map (zs.map eH))/\fG w0 zs bs
theorem dG.lt {w0 w:World} {b:Nat} {bs:List (Int×Tm)} (h:dG w0 w b bs):b<w.heap.size:=by
 obtain⟨zs,h,_⟩:=h;exact h.lt
theorem dG.kept {w0 w w':World} {b:Nat} {bs:List (Int×Tm)} (h:dG w0 w b bs) (hk:w'.heap[b]?=w.heap[b]?):dG w0 w' b bs:=by
 obtain⟨zs,⟨es,c,h1,h2⟩,hz⟩:=h;exact⟨zs,⟨es,c,hk.trans h1,h2⟩,hz⟩
theorem dG.below {w0 w w':World} {b:Nat} {bs:List (Int×Tm)} (h:dG w0 w b bs) (hb:Below w.heap.size w w'):dG w0 w' b bs:=h.kept (hb.block b h.lt)
theorem dG.drew {w0 w:World} {b:Nat} {bs:List (Int×Tm)} (h:dG w0 w b bs):dG w0 w.drew b bs:=h
theorem dG.made (w0 w:World):dG w0 (w.alloc (.map #[] 0)) w.heap.size []:=⟨[],World.ownsMap_made w _ _ _,.nil⟩
theorem sw {v:Int} (hv:an v):keyOf Tryz.prog 3 (.int .i64 v)=some (.int .i64 v):=
 Maps.keyOf_int_mk Tryz.underlying3 (by
  have h:=wrap64_wf v;rw[show wrap64 v=v by unfold an at hv;unfold wrap64;omega]at h;exact h)
theorem dG.look {w0 w:World} {b:Nat} {bs:List (Int×Tm)} (h:dG w0 w b bs) {v:Int} (hv:an v):
 (fnd bs v=none/\(Instr.lookup 72 (.map (some b)) (.int .i64 v) true).run Tryz.prog w=.ok (.tuple #[.agg #[.int .i64 0,.int .i64 0,.string ⟨#[]⟩,.bool false,.slice none 0 0,.slice none 0 0,.slice none 0 0],.bool false]) w)\/
 ∃ x cx,fnd bs v=some x/\TC w0 x cx/\(Instr.lookup 72 (.map (some b)) (.int .i64 v) true).run Tryz.prog w=.ok (.tuple #[.agg cx.toArray,.bool true]) w:=by
 obtain⟨zs,⟨es,clock,hb,F,_,hD⟩,hz⟩:=h;have hl:=Maps.fit_look (R:=zL) true (Maps.int_keyed Tryz.underlying3) Tryz.underlying72 (Tryz.zeroValue27 w) hb F (sw hv);rw[<-hD]at hl;rcases hl with ⟨hrun,_,hat⟩|⟨e0,y,_,_,hrun,hR,hat,_⟩
 ·rcases hz.at v with ⟨h1,_⟩|⟨x,cx,_,_,h3⟩
  ·exact .inl ⟨h1,hrun⟩
  ·have:=(h3 .nil).symm.trans (hat .nil);cases this
 ·have hy:y=(.held e0.val,[]):=(Option.some.inj hR).symm;subst hy;rcases hz.at v with ⟨_,h2⟩|⟨x,cx,h1,h2,h3⟩
  ·have:=(h2 .nil).symm.trans (hat .nil);cases this
  ·have:=(h3 .nil).symm.trans (hat .nil);simp only[DataW.held.injEq]at this;rw[<-this]at hrun;exact .inr ⟨x,cx,h1,h2,hrun⟩
theorem dG.put {w0 w:World} {b:Nat} {bs:List (Int×Tm)} (h:dG w0 w b bs) {v:Int} (hv:an v) (hn:fnd bs v=none) (hl:bs.length<maxLen) {t:Tm} {cx:List Value} (ht:TC w0 t cx):
 ∃ z,(Instr.mapUpdate 72 (.map (some b)) (.int .i64 v) (.agg cx.toArray)).run Tryz.prog w=.ok () z/\dG w0 z b (dp (v,t) bs)/\w.grownBy z (some b):=by
 obtain⟨zs,ho,hz⟩:=h;obtain⟨z,h1,h2,h3⟩:=ho.update (Maps.int_keyed Tryz.underlying3) Tryz.underlying72 hl (sw hv) (val:=.agg cx.toArray) (d:=.held (.agg cx.toArray)) (ps:=[]) rfl;refine⟨z,h1,⟨dp (v,cx) zs,?_,hz.ins hv ht⟩,h3⟩;rw[py];have e:(DataW.map (zs.map eH)).put (.int .i64 v) (.held (.agg cx.toArray))=.map ((dp (v,cx) zs).map eH):=by
  rw[<-qX,DataW.put,qP hz hn];rfl
 rw[e]at h2;exact h2
theorem lM (xs ys:List Nat) (va vb:Value) (w:World) (ha:Sl .u32 w va xs) (hb:Sl .u32 w vb ys):
 Calls Tryz.prog 114 #[va,vb] w fun e w'=>e=.returned (.bool (qO xs ys))/\∃ m,w'=w.drewN m:=by
 obtain⟨A,ca,rfl,hca,hma,hra⟩:=ha;obtain⟨A',cb,rfl,hcb,hmb,hrb⟩:=hb;unfold maxLen at hma hmb;generalize hn:xs.length=n at*;generalize hm:ys.length=m at*;by_cases hne:n=m
 ·subst hne;have HL:=zH (And.intro hn hm);have HA:=zH hra;have HB:=zH hrb;clear hn hm hra hrb;have hb1:((n:Int) != (n:Int))=false:=by simp
  go_enter Tryz.func114,Tryz.ntmps114
  go_wp2
  go_loopg [13] n (fun g i wr=>∃ j m:Nat,g+j=n/\i=.int .i64 (j:Int)/\Hid (xs.take j=ys.take j)/\Hid (wr=w.drewN m))
  case atStart=>exact⟨0,0,by omega,rfl,rfl,rfl⟩
  case round=>
   obtain⟨j,dr,hgj,rfl,HV,HW⟩:=hrel;obtain rfl:=HW.out;by_cases h0:j<n
   ·obtain⟨b,o,p,rfl,hb,hpe,hcp⟩:=HA.out.at_ (i:=j) h0;obtain⟨b',o',q,rfl,hb',hqe,hcq⟩:=HB.out.at_ (i:=j) h0;have HP:Hid (xs.getD j 0=p/\ys.getD j 0=q):=⟨hpe,hqe⟩;clear hpe hqe;have hi0:(0:Int)<=(j:Int):=by omega
    have hi1:(j:Int)<(n:Int):=by omega
    by_cases hpq:p=q
    ·subst hpq;have hbn:((p:Int) != (p:Int))=false:=by simp
     go_wp2
     go_quiet (fail)
     go_wp2
     go_roundg (gk-1)
     case measure=>omega
     case rel=>exact⟨j+1,_,by omega,by go_num,uF (by rw[HL.out.1];exact h0) (by rw[HL.out.2];exact h0) HV.out (HP.out.1.trans HP.out.2.symm),rfl⟩
    ·have hbn:((p:Int) != (q:Int))=true:=by rw[bne_iff_ne];omega
     have E:Hid (qO xs ys=false):=lL (by rintro rfl;exact hpq (HP.out.1.symm.trans HP.out.2));clear hpq
     go_wp2
     go_quiet (fail)
     go_wp2
     go_ret;rw[E.out];exact⟨rfl,_,by rw[World.drewN_drewN]⟩
   ·obtain rfl:j=n:=by omega
    have E:Hid (qO xs ys=true):=vz (by have h:=HV.out;rwa [List.take_of_length_le (by rw[HL.out.1];exact Nat.le_refl _),List.take_of_length_le (by rw[HL.out.2];exact Nat.le_refl _)]at h)
    go_wp2
    go_ret;rw[E.out];exact⟨rfl,dr,rfl⟩
 ·have hb1:((n:Int) != (m:Int))=true:=by rw[bne_iff_ne];omega
  have E:Hid (qO xs ys=false):=lL (by rintro rfl;omega);clear hn hm hne hra hrb;go_enter Tryz.func114,Tryz.ntmps114
  go_wp2
  go_ret;rw[E.out];exact⟨rfl,0,rfl⟩
theorem mD (a b:LN):gO a b=true↔a=b:=by
 unfold gO qO;cases a;cases b;simp
theorem kN (a b:LN) (A B A' B':Value) {w:World} (h1:Sl .u32 w A a.num) (h2:Sl .u32 w B a.den) (h3:Sl .u32 w A' b.num) (h4:Sl .u32 w B' b.den) (W:World) (hW:Below w.heap.size w W):
 Calls Tryz.prog 84 #[.agg #[.bool a.neg,A,B],.agg #[.bool b.neg,A',B']] W fun e w'=>e=.returned (.bool (gO a b))/\Below W.heap.size W w':=by
 have HN:Hid (∀ W',Below w.heap.size w W'->Calls Tryz.prog 114 #[A,A'] W' fun e w'=>e=.returned (.bool (qO a.num b.num))/\Below W'.heap.size W' w'):=fun W' hb=>(lM a.num b.num A A' W' (h1.to hb) (h3.to hb)).mono fun e w' q=>⟨q.1,by obtain⟨m,rfl⟩:=q.2;exact aF (Below.refl _ _) _⟩;have HD:Hid (∀ W',Below w.heap.size w W'->Calls Tryz.prog 114 #[B,B'] W' fun e w'=>e=.returned (.bool (qO a.den b.den))/\Below W'.heap.size W' w'):=fun W' hb=>(lM a.den b.den B B' W' (h2.to hb) (h4.to hb)).mono fun e w' q=>⟨q.1,by obtain⟨m,rfl⟩:=q.2;exact aF (Below.refl _ _) _⟩;have HWB:=zH hW;have HS:Hid (gO a b=((a.neg==b.neg)&&(qO a.num b.num&&qO a.den b.den))):=rfl;obtain⟨A1,n1,rfl,_⟩:=h1;obtain⟨B1,m1,rfl,_⟩:=h2;obtain⟨A2,n2,rfl,_⟩:=h3;obtain⟨B2,m2,rfl,_⟩:=h4;generalize gO a b=sb at*;generalize qO a.num b.num=e1 at*;generalize qO a.den b.den=e2 at*;generalize a.num.length=l1 at*;generalize a.den.length=l2 at*;generalize b.num.length=l3 at*;generalize b.den.length=l4 at*;generalize a.neg=ng1 at*;generalize b.neg=ng2 at*;have HB0:Hid (Below W.heap.size W ((W.alloc (.cells #[.bool ng1,.slice A1 l1 n1,.slice B1 l2 m1] 24)).alloc (.cells #[.bool ng2,.slice A2 l3 n2,.slice B2 l4 m2] 24))):=am W _ _;have HK0:Hid (af ((W.alloc (.cells #[.bool ng1,.slice A1 l1 n1,.slice B1 l2 m1] 24)).alloc (.cells #[.bool ng2,.slice A2 l3 n2,.slice B2 l4 m2] 24)) W.heap.size 24 #[.bool ng1,.slice A1 l1 n1,.slice B1 l2 m1]):=(af.new W _ _).alloc _;have HK1:Hid (af ((W.alloc (.cells #[.bool ng1,.slice A1 l1 n1,.slice B1 l2 m1] 24)).alloc (.cells #[.bool ng2,.slice A2 l3 n2,.slice B2 l4 m2] 24)) (W.heap.size+1) 24 #[.bool ng2,.slice A2 l3 n2,.slice B2 l4 m2]):=mR W _ _;clear hW;go_enter Tryz.func84,Tryz.ntmps84;by_cases hng:ng1=ng2
 ·have hb:(ng1==ng2)=true:=by simp[hng]
  have HS1:Hid (sb=(e1&&e2)):=by have:=HS.out;rw[hb]at this;show _=_;simpa using this
  clear HS hng;go_wp2_with fail;refine (HN.out _ (by exact HWB.out.trans (HB0.out.mono HWB.out.size))).mono ?_;rintro e w1 ⟨rfl,hb1⟩;have HB1:Hid (Below W.heap.size W w1):=HB0.out.trans (hb1.mono HB0.out.size);have k2:=(HK0.out.to hb1).cell 2;have k3:=(HK1.out.to hb1).cell 2;simp only[L3]at k2 k3;clear hb1 HB0 HK0 HK1 HN;cases e1 with
  |true=>
   have HS2:Hid (sb=e2):=by have:=HS1.out;show _=_;simpa using this
   clear HS1;go_wp2_with fail;refine (HD.out _ (by exact HWB.out.trans (HB1.out.mono HWB.out.size))).mono ?_;rintro e w2 ⟨rfl,hb2⟩;have HB2:Hid (Below W.heap.size W w2):=HB1.out.trans (hb2.mono HB1.out.size);clear hb2 HB1 k2 k3;obtain rfl:=HS2.out;go_wp2_with fail;go_ret;exact⟨rfl,HB2.out⟩
  |false=>
   have HS2:Hid (sb=false):=by have:=HS1.out;show _=_;simpa using this
   clear HS1;obtain rfl:=HS2.out;go_wp2_with fail;go_ret;exact⟨rfl,HB1.out⟩
 ·have hb:(ng1==ng2)=false:=beq_eq_false_iff_ne.2 hng;have HS1:Hid (sb=false):=by have:=HS.out;rw[hb]at this;show _=_;simpa using this
  obtain rfl:=HS1.out;clear HS hng HS1;go_wp2_with fail;go_ret;exact⟨rfl,HB0.out⟩
def Tm.hd:Tm->Tm->Bool
 |.mk k _ s n args,.mk k' _ s' n' args'=>decide (k=k'/\s.toList=s'.toList/\args.length=args'.length/\(k=2->gO n n'=true))
def Tm.args:Tm->List Tm
 |.mk _ _ _ _ args=>args
theorem sk {bs:List (Int×Tm)} {v:Int} (h:fnd bs v=none) (t:Tm) (u:Int):fnd (dp (v,t) bs) u=if u=v then some t else fnd bs u:=by
 induction bs with
 |nil=>
  by_cases e:v=u
  ·subst e;simp[dp,fnd]
  ·have e':¬u=v:=fun q=>e q.symm;simp[dp,fnd,e,e']
 |cons y r ih=>
  have e1:¬y.1=v:=fun q=>by simp[fnd,q]at h
  have h2:fnd r v=none:=by simpa[fnd,e1] using h
  have ih:=ih h2;rw[dp]
  split
  ·by_cases e:v=u
   ·subst e;simp[fnd]
   ·have e':¬u=v:=fun q=>e q.symm;simp[fnd,e,e']
  ·by_cases e:y.1=u
   ·subst e;simp[fnd,e1]
   ·have e2:fnd (y::dp (v,t) r) u=fnd (dp (v,t) r) u:=by simp[fnd,e]
    have e3:fnd (y::r) u=fnd r u:=by simp[fnd,e]
    rw[e2,e3,ih]
def yQ (bs:List (Int×Tm)):Prop:=∀ v x,fnd bs v=some x->x.err0=0
theorem yQ.nil:yQ []:=fun v x h=>by simp[fnd]at h
theorem yQ.ins {bs:List (Int×Tm)} (h:yQ bs) {v:Int} (hn:fnd bs v=none) {t:Tm} (ht:t.err0=0):yQ (dp (v,t) bs):=fun u x hx=>by
 rw[sk hn]at hx;by_cases e:u=v
 ·rw[if_pos e]at hx;cases hx;exact ht
 ·rw[if_neg e]at hx;exact h u x hx
theorem uZ {s:ByteArray} (h:s.size=0):s=⟨#[]⟩:=by
 cases s with
 |mk d=>
  have hd:d.size=0:=h;rw[Array.eq_empty_of_size_eq_zero hd]
theorem cJ {s t:ByteArray} (h:s.toList=t.toList):s=t:=by
 rw[Lib.toList_data,Lib.toList_data]at h;cases s;cases t;simpa using h
theorem sx {n:LN} (h1:n.neg=false) (h2:n.num.length=0) (h3:n.den.length=0):n=⟨false,[],[]⟩:=by
 cases n with
 |mk a b c=>
  simp only at h1 h2 h3;rw[h1,List.eq_nil_of_length_eq_zero h2,List.eq_nil_of_length_eq_zero h3]
theorem cN {k v:Int} {s:ByteArray} {n:LN} {na:Nat} (h:aJ k v s n.neg n.num.length n.den.length n.err na=0) (hk:k≠1):v=0/\(k=2->s=⟨#[]⟩/\na=0/\n.err=0)/\(k≠2->n=⟨false,[],[]⟩):=by
 rcases aj h with ⟨h1,h2,h3,h4,h5⟩|⟨h1,h2,h3,h4,h5⟩
 ·exact⟨h2,fun _=>⟨uZ h3,h5,h4⟩,fun h=>absurd h1 h⟩
 ·refine⟨?_,fun h=>absurd h h1,fun _=>sx h2 h3 h4⟩;rcases h5 with h5|h5|h5|h5
  ·exact absurd h5.1 hk
  ·exact h5.2.1
  ·exact h5.2.1
  ·exact h5.2.1
theorem du {v:Int} {s:ByteArray} {n:LN} {na:Nat} (h:aJ 1 v s n.neg n.num.length n.den.length n.err na=0):s=⟨#[]⟩/\na=0/\n=⟨false,[],[]⟩:=by
 rcases aj h with ⟨h1,_⟩|⟨h1,h2,h3,h4,h5⟩
 ·omega
 ·rcases h5 with h5|h5|h5|h5
  ·exact⟨uZ h5.2.2.2.1,h5.2.2.2.2,sx h2 h3 h4⟩
  ·omega
  ·omega
  ·omega
theorem tG (s t:ByteArray):s.data.toList=t.data.toList↔s.toList=t.toList:=by rw[Lib.toList_data,Lib.toList_data]
mutual
theorem Tm.cmp_eq:∀ (a b:Tm),a.fine->b.fine->a.cmp b=0->a=b
 |.mk k v s n args,.mk k2 v2 s2 n2 args2,ha,hb,h=>by
  rw[Tm.fine]at ha hb;rw[Tm.cmp,cS,b9]at h;obtain⟨rfl,h⟩:=h;by_cases h1:k=1
  ·subst h1;rw[if_pos rfl,b9]at h;have q1:=du ha.2.1;have q2:=du hb.2.1;rw[h,q1.1,q2.1,q1.2.2,q2.2.2,List.eq_nil_of_length_eq_zero q1.2.1,List.eq_nil_of_length_eq_zero q2.2.1]
  ·rw[if_neg h1]at h;have r1:=cN ha.2.1 h1;have r2:=cN hb.2.1 h1;by_cases h2:k=2
   ·rw[if_pos h2,lH ha.1 hb.1 (r1.2.1 h2).2.2 (r2.2.1 h2).2.2]at h;rw[h,r1.1,r2.1,(r1.2.1 h2).1,(r2.2.1 h2).1,List.eq_nil_of_length_eq_zero (r1.2.1 h2).2.1,List.eq_nil_of_length_eq_zero (r2.2.1 h2).2.1]
   ·rw[if_neg h2,cS,b9,cS,lG,tG]at h;rw[r1.1,r2.1,r1.2.2 h2,r2.2.2 h2,cJ h.2.1,oK args args2 (by omega) ha.2.2 hb.2.2 h.2.2]
theorem oK:∀ (a b:List Tm),a.length=b.length->dU a->dU b->lI a b=0->a=b
 |[],[],_,_,_,_=>rfl
 |[],_::_,h,_,_,_=>by simp at h
 |_::_,[],h,_,_,_=>by simp at h
 |t::l,t'::l',hl,ha,hb,h=>by
  rw[dU]at ha hb;rw[lI,cS]at h;rw[t.cmp_eq t' ha.1 hb.1 h.1,oK l l' (by simpa using hl) ha.2 hb.2 h.2]
end
theorem dN.ins {bs:List (Int×Tm)} (h:dN bs) {v:Int} (hn:fnd bs v=none) (t:Tm):dN (dp (v,t) bs):=by
 have key:∀ (l:List (Int×Tm)),l.Pairwise (fun a b=>a.1<b.1)->fnd l v=none->(dp (v,t) l).Pairwise (fun a b=>a.1<b.1):=by
  intro l
  induction l with
  |nil=>intro _ _;simp[dp]
  |cons y r ih=>
   intro hp hf;have e1:¬y.1=v:=fun q=>by simp[fnd,q]at hf
   have h2:fnd r v=none:=by simpa[fnd,e1] using hf
   rw[List.pairwise_cons]at hp;rw[dp];by_cases hlt:v<y.1
   ·rw[if_pos hlt,List.pairwise_cons];refine⟨fun a ha=>?_,List.pairwise_cons.2 hp⟩;rcases List.mem_cons.1 ha with rfl|ha
    ·exact hlt
    ·have:=hp.1 a ha;show v<a.1;omega
   ·rw[if_neg hlt,List.pairwise_cons];refine⟨fun a ha=>?_,ih hp.2 h2⟩;have hmem:∀ (l:List (Int×Tm)) (a:Int×Tm),a∈dp (v,t) l->a=(v,t)\/a∈l:=by
     intro l
     induction l with
     |nil=>intro a ha;simpa[dp] using ha
     |cons z r ih=>
      intro a ha;rw[dp]at ha
      split at ha
      ·simpa using ha
      ·rcases List.mem_cons.1 ha with rfl|ha
       ·simp
       ·rcases ih a ha with h|h
        ·exact .inl h
        ·exact .inr (by simp[h])
    rcases hmem r a ha with rfl|ha
    ·show y.1<v;omega
    ·exact hp.1 a ha
 have:=key bs (List.pairwise_iff_getElem.2 fun i j hi hj hij=>h i j hi hj hij) hn;intro i j hi hj hij;exact List.pairwise_iff_getElem.1 this i j hi hj hij
def rT (N:Nat) (bs:List (Int×Tm)):Prop:=∀ b∈bs,0<=b.1/\b.2.err0=0/\b.2.count<=N
theorem rT.good {bs:List (Int×Tm)} (h:rT 10000 bs) (hi:dN bs):eB bs:=by
 intro j hj;have hb:=h _ (List.getElem_mem hj);refine⟨?_,?_⟩
 ·cases j with
  |zero=>simp only[fg];omega
  |succ j=>
   rw[ei (by omega)];exact hi j (j+1) (by omega) hj (by omega)
 ·unfold Tm.check;rw[if_neg (by omega)];exact hb.2.1
theorem rT.nil (N:Nat):rT N []:=fun b hb=>by cases hb
end Go.Proofs.YtlhojoefhannnaaGreat

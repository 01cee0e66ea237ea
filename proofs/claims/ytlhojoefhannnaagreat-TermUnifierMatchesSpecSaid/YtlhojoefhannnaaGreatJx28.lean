/- The reference's equal: a round of its loop, behind the swap. And 1 more texts. -/
import Derived.Test.YtlhojoefhannnaaGreatJx26
set_option linter.unusedVariables false
set_option linter.unusedSimpArgs false
set_option maxRecDepth 100000
set_option maxHeartbeats 51200000
namespace Go.Proofs.YtlhojoefhannnaaGreat
open Go.Proofs.Tryz Go.RowKit NumB
def CA (n:Nat):Code->Bool
 |.region k _ _=>Nat.beq k n
 |.seq a _=>CA n a
 |_=>false
def i7 (n:Nat):Code->Option Code
 |.seq a b=>match CA n a with
  |true=>some (.seq a b)
  |false=>match i7 n a with
   |some c=>some c
   |none=>i7 n b
 |.cond _ a b=>match i7 n a with
  |some c=>some c
  |none=>i7 n b
 |.block _ c=>i7 n c
 |.loop c=>i7 n c
 |_=>none
noncomputable def CO (n:Nat) (f:Func):Code:=((f.body.bind (i7 n)).getD .skip)
theorem Bt {w C wr y3 y4 y5:World} {d g cr a ca m1 O m3 m4 N nb nm v4 mx my r n2 xb yb gk L tg tc p1 p2:Nat} {gm:Value->Option Value} {rc:Nat->List Value} {ac:Nat->Value} {Ts:List Tm} {A:Nat->List Nat} {x y t1 t2:Tm} {b:Int->Option Tm} {Mt:List (Tm×Tm)} {S:List (Nat×Nat)} {xk xv yk yv:Int} {xs ys:ByteArray} {xm ym:LN} {D E:List Tm} {n3 ux vx:Bool} {UA UB UX VA VB VX:Option Addr} {ua uc ub ud ul up va vc vb vd vl vp:Nat} {K K1 K2:Act->World->Prop} {q1 q2 q3 q4 q5 q6 q9 F8 G9 I0 v5 v7 v8 w0 w1 J0 J1 J2 J3 J4 J5 J6 J7 J8 J9 K0 K3 K4 K5 K6 K7 K8 K9 M0 M1 M2 M3 M4 M5 M6 M7 M8 M9 N0 N1 N2 N3 N4 N5 N6 N7 N8 N9 O0 O1 O2 O3 O4 O5 O6 O7 O8 O9 P0 P1 P2 P3 P4 P5 P6 P7 P8 P9 Q0 Q1 Q2 Q3 Q4 Q5 Q6 Q7 Q8 Q9 R0 R1 R2 R3 R4 R5 R6 R8 R9 S0 A3 A4 A5 A6 A7 A8 A9 B0 B1 B2 B3 B4 B5 B6 B7 B8 D0 D3 D4 D5 D6 D7 D8 D9 E0 E3 E4 E5 E6 E7 E8 E9 F0 F1 F2 F3 F4 F5 F6 F7 F9 G0 G1 G2 G3 G4 G5 G6 G7 G8 H0 H1 H2 H3 H4 H5 H6 H7 H8 H9 I1 I2 I3 I4 I5 I6 I7 I8 I9:Value}
 (HG:Yd (GR w d g cr a ca m1 O m3 m4 N rc ac Ts A C)) (HB:Yd (jD O nb Ts (fun _=>none) C)) (HU:Yd (kg nm Ts)) (HN:Yd (N<=50000)) (b4:Yd (w.heap.size<=O))
 (i4:Yd (S.length=L)) (n8:Yd (mz Ts (cV Ts ((p1,p2)::S)) Mt<=gk/\mz Ts (cV Ts ((p1,p2)::S)) Mt<=33*(N*N)+1)) (x2:Yd (L<=100000000000))
 (e3:Yd (EV w d g cr a ca m1 O m3 m4 N rc ac Ts A (x,y) C C.heap.size ((p1,p2)::S) b Mt (.slice (some ⟨tg,0,none⟩) ((p1,p2)::S).length tc) (y3))) (X:Yd (EV w d g cr a ca m1 O m3 m4 N rc ac Ts A (x,y) C C.heap.size ((p1,p2)::S) b Mt (.slice (some ⟨tg,0,none⟩) ((p1,p2)::S).length tc) (y4))) (y1:Yd (y3.ownsRow C.heap.size 134 2 (.slice (some ⟨tg,0,none⟩) L tc) L (jX S)))
 (m:Yd (mx<N/\Ts[mx]?=some (.mk xk xv xs xm D)/\dK b t1 (.mk xk xv xs xm D)/\∀ v,Tm.mk xk xv xs xm D=.var v->b v=none)) (n:Yd (my<N/\Ts[my]?=some (.mk yk yv ys ym E)/\dK b t2 (.mk yk yv ys ym E)/\∀ v,Tm.mk yk yv ys ym E=.var v->b v=none))
 (e6:Yd (jE Ts p1=t1/\jE Ts p2=t2)) (n9:Yd (¬mx=my)) (e4:Yd (aE iL y4 C.heap.size v4 gm/\jH gm Ts Mt/\gm (k2 mx my)=none)) (w9:Yd (iL (k2 mx my))) (j2:Yd (n3=true↔(yk=1/\(xk≠1\/xv<yv))))
 (o5:Yd (zZ y3 y4/\ah y4 xb 27 (zX xk xv xs ux UA ua uc UB ub ud UX ul up).toArray/\ah y4 yb 27 (zX yk yv ys vx VA va vc VB vb vd VX vl vp).toArray/\xb≠yb/\y3.heap.size<=xb/\y3.heap.size<=yb))
 (a8:Yd (zZ y3 y5/\ah y5 xb 27 (rc r).toArray/\ah y5 yb 27 (rc n2).toArray/\((r=mx/\n2=my/\n3=false)\/(r=my/\n2=mx/\n3=true))))
 (n5:Yd (∀ (p0:Nat) (S':List (Nat×Nat)) (tv':Value) (W':World) {v6 v9 S3 T4 U5 V6 W8 X9 Z0 aA aC aT bO bY cA cB cG cX dO dT eQ fX gA gC gE gT gW hA hB hC hD hE hF hG hH hI hJ hL hM hN hO hP hQ hR hT hU hV hX hY hZ iD iF iN iO lE lT mA mB mX nA nB nE nX oA oB oF oR oX pA pB pX rA rB rC rX sT tO tX wA xA xB xC xX yA yB yX AC S4 S5 S6 S7 S8 S9 T0 T1 T2 T3 T5 T6 T7 T8 T9 U0 U1 U2 U3 U4 U6 U7 U8 U9 V0 V1 V2 V3 V4 V5 V7 V8 V9 W1 W2 W3 W4 W5 W6 W7 W9 X0 X1 X2 X3 X4 X5 X6 X7 X8 Y0 Y1 Y2 Y3 Y4 Y5 Y6 Y7 Y8 Y9 Z1 Z2 Z3 Z4 Z5 Z6 Z7 Z8 Z9:Value},p0<gk->(∃ b Mt,EV w d g cr a ca m1 O m3 m4 N rc ac Ts A (x,y) C C.heap.size (S') b Mt (tv') (W')/\mz Ts (cV Ts S') Mt<=p0/\mz Ts (cV Ts S') Mt<=33*(N*N)+1)->K1 ⟨#[zY d,q1,q2,q3,q4,q5,v6,.map (some C.heap.size),tv',v9,S3,T4,U5,V6,W8,X9,Z0,v5,v7,v8,w0,w1,aA,aC,aT,bO,bY,cA,cB,cG,cX,dO,dT,eQ,fX,gA,gC,gE,gT,gW,hA,hB,hC,hD,hE,hF,hG,hH,hI,hJ,hL,hM,hN,hO,hP,hQ,hR,hT,hU,hV,hX,hY,hZ,iD,iF,iN,iO,lE,lT,mA,mB,mX,nA,nB,nE,nX,oA,oB,oF,oR,oX,pA,pB,pX,rA,rB,rC,rX,sT,tO,tX,wA,xA,xB,xC,xX,yA,yB,yX,AC,S4,S5,S6,S7,S8,S9,T0,T1,T2,T3,T5,T6,T7,T8,T9,U0,U1,U2,U3,U4,U6,U7,U8,U9,V0,V1,V2,V3,V4,V5,V7,V8,V9,W1,W2,W3,W4,W5,W6,W7,W9,X0,X1,X2,X3,X4,X5,X6,X7,X8,Y0,Y1,Y2,Y3,Y4,Y5,Y6,Y7,Y8,Y9,Z1,Z2,Z3,Z4,Z5,Z6,Z7,Z8,Z9],[]⟩ W'))
 (hK:∀ aa w2,Code.wp prog (CO 13 Tryz.f67) (Exit.inBlock 1 (Exit.then K1 (Exit.inBlock 0 (Exit.then K2 (bodyPost prog Tryz.f67 fun e W'=>e=.returned (.bool (qc x y))/\ag (fun k=>k=O) C W'/\((∃ s:Int->Tm,x.sb s=y.sb s)->∃ b nb Mt,GR w d g cr a ca m1 O m3 m4 N rc ac Ts A W'/\jD O nb Ts b W'/\kX Ts b/\iZ true (x,y) b [] Mt)))))) aa w2->K aa w2):
 K ⟨#[.pointer (some ⟨d,0,none⟩),q1,q2,q3,q4,q5,q6,.map (some C.heap.size),.slice (some ⟨tg,0,none⟩) L tc,q9,.int .i64 (r:Int),.int .i64 (n2:Int),.pointer (some ⟨xb,0,none⟩),.pointer (some ⟨yb,0,none⟩),F8,G9,I0,v5,v7,v8,w0,w1,J0,J1,J2,J3,J4,J5,J6,J7,J8,J9,K0,K3,K4,K5,K6,K7,K8,K9,M0,M1,M2,M3,M4,M5,M6,M7,M8,M9,N0,N1,N2,N3,N4,N5,N6,N7,N8,N9,O0,O1,O2,O3,O4,O5,O6,O7,O8,O9,P0,P1,P2,P3,P4,P5,P6,P7,P8,P9,Q0,Q1,Q2,Q3,Q4,Q5,Q6,Q7,Q8,Q9,R0,R1,R2,R3,R4,R5,R6,R8,R9,S0,A3,A4,A5,A6,A7,A8,A9,B0,B1,B2,B3,B4,B5,B6,B7,B8,D0,D3,D4,D5,D6,D7,D8,D9,E0,E3,E4,E5,E6,E7,E8,E9,F0,F1,F2,F3,F4,F5,F6,F7,F9,G0,G1,G2,G3,G4,G5,G6,G7,G8,H0,H1,H2,H3,H4,H5,H6,H7,H8,H9,I1,I2,I3,I4,I5,I6,I7,I8,I9],[]⟩ y5:=by
 refine hK _ _ ?_;clear hK
 conv=>arg 2;whnf
 have z7:∃ u1 u2:Tm,r<N/\n2<N/\Ts[r]?=some u1/\Ts[n2]?=some u2/\(∀ v,u1=.var v->b v=none)/\(∀ v,u2=.var v->b v=none)/\((r=mx/\n2=my/\u1=.mk xk xv xs xm D/\u2=.mk yk yv ys ym E)\/(r=my/\n2=mx/\u1=.mk yk yv ys ym E/\u2=.mk xk xv xs xm D))/\(∀ v,u1=.var v->∀ u,u2=.var u->u<v)/\((∀ v,u1≠.var v)->∀ v,u2≠.var v):=by
  have fx:=(X.o.gr.ok _ (List.mem_of_getElem? m.o.2.1)).1;have fy:=(X.o.gr.ok _ (List.mem_of_getElem? n.o.2.1)).1;have z4:Tm.mk xk xv xs xm D≠.mk yk yv ys ym E:=fun e=>n9.o (X.o.gr.nd mx my (by rw[X.o.gr.len];exact m.o.1) (by rw[X.o.gr.len];exact n.o.1) (by rw[m.o.2.1,n.o.2.1,e]));rcases a8.o.2.2.2 with ⟨rfl,rfl,hs⟩|⟨rfl,rfl,hs⟩
  ·have d6:¬(yk=1/\(xk≠1\/xv<yv)):=fun h=>by rw[j2.o.2 h]at hs;cases hs
   refine⟨_,_,m.o.1,n.o.1,m.o.2.1,n.o.2.1,m.o.2.2.2,n.o.2.2.2,.inl ⟨rfl,rfl,rfl,rfl⟩,fun v ev u eu=>?_,fun hn u eu=>?_⟩
   ·have Q:=aS ev;have J:=aS eu;have Y:v≠u:=fun e=>z4 (by rw[ev,eu,e]);have h4:¬xv<yv:=fun h=>d6 ⟨J.1,.inr h⟩;omega
   ·exact d6 ⟨(aS eu).1,.inl fun e=>hn _ (aK fx e)⟩
  ·have d6:=j2.o.1 hs;refine⟨_,_,n.o.1,m.o.1,n.o.2.1,m.o.2.1,n.o.2.2.2,m.o.2.2.2,.inr ⟨rfl,rfl,rfl,rfl⟩,fun v ev u eu=>?_,fun hn u eu=>?_⟩
   ·have Q:=aS ev;have J:=aS eu;rcases d6.2 with h|h
    ·exact absurd J.1 h
    ·omega
   ·exact hn _ (aK fy d6.1)
 obtain⟨u1,u2,l4,d4,m7,m8,c9,d0,l8,r6,t7⟩:=z7;have i:=zH (e3.o.below a8.o.1);have e5:=zH (bJ y1.o a8.o.1);have t8:(u1=.mk xk xv xs xm D/\u2=.mk yk yv ys ym E)\/(u1=.mk yk yv ys ym E/\u2=.mk xk xv xs xm D):=by
  rcases l8 with ⟨_,_,Q,J⟩|⟨_,_,Q,J⟩
  ·exact .inl ⟨Q,J⟩
  ·exact .inr ⟨Q,J⟩
 have o1:=zH t8;have o8:=(X.o.gr.ok _ (List.mem_of_getElem? m7));have o9:=(X.o.gr.ok _ (List.mem_of_getElem? m8));have a0:=zH (zW o8 o9);have a3:=zH m7;have Z:=zH m8;have w5:=zH c9;have w6:=zH d0;have c4:=zH r6;have x5:=zH t7;have P:=zH l4;have I:=zH d4;have y0:=zH l8;clear l8 t8 o8 o9 m7 m8 c9 d0 r6 t7;obtain⟨k1,F,s1,e1,a1⟩:=u1;obtain⟨g7,C1,c1,d1,D1,f1,Q,E1,g1,i1,l6⟩:=i.o.gr.root l4 a3.o;have c8:=a8.o.2.1;rw[l6]at c8;have x9:=zH l6;have h5:=zH c8;have x0:=c8.cell 0;have x1:=c8.cell 1;simp only[L3]at x0 x1;clear l6 c8 l4 d4;by_cases l0:k1=1
 ·subst l0;have ev:Tm.mk 1 F s1 e1 a1=.var F:=aK a0.o.1.1 rfl;have p9:=w5.o F ev;have b3:=zH p9;have M:=zH ev;have o4:Yd (Tm.var F∈Ts):=by rw[<-ev];exact List.mem_of_getElem? a3.o
  have z1:=@run_makeMap prog;obtain⟨fr,r3⟩:=i.o.sp.inv.acy.res;have w7:=zH r3;have o0:Yd (Calls prog 90 #[zY d,.int .i64 F,.int .i64 (n2:Int),.map (some y5.heap.size)] (y5.alloc (.map #[] 0)) fun e z=>e=.returned (.bool (df b F u2))/\Yd (zZ y5 z)):=by
   have hb:=ae y5 (.map #[] 0);obtain⟨d7,b0⟩:=i.o.nb;have r7:O<C.heap.size:=i.o.mml.2;have DO:=i.o.kp.size;refine (rZ i.o.ul.low (fun t ht v e=>(HU.o.2 t ht v e).1) w7.o b3.o ⟨by omega,zC i.o.gr.be.size zA⟩ _ n2 u2 I.o Z.o (Nat.lt_succ_self _) (y5.alloc (.map #[] 0)) 0 (fun _=>none) (i.o.gr.below hb) (b0.below hb) (.empty (c:=0) (heap_alloc_new y5 _)) (fun j _=>.inl rfl) (fun j y _ h=>by cases h)).mono ?_;rintro e z ⟨rfl,hk,_⟩;exact⟨rfl,hb.trans (hk.below (B:=y5.heap.size) hb.size fun k e=>Nat.le_of_eq e.symm)⟩
  clear ev p9 r3;go_wp2_with fail;clear z1;refine o0.o.mono ?_;rintro e z ⟨rfl,hz⟩;clear o0;have h7:Yd ((dK b (jE Ts p1) (.var F)/\dK b (jE Ts p2) u2)\/(dK b (jE Ts p1) u2/\dK b (jE Ts p2) (.var F))):=by
   rw[e6.o.1,e6.o.2,<-M.o];rcases o1.o with ⟨Q,J⟩|⟨Q,J⟩
   ·rw[Q,J];exact .inl ⟨m.o.2.2.1,n.o.2.2.1⟩
   ·rw[Q,J];exact .inr ⟨m.o.2.2.1,n.o.2.2.1⟩
  by_cases ho:eB b F u2
  ·have z5:df b F u2=true:=eS ho;have HO:=zH ho;clear ho;have a7:Yd (∀ s:Int->Tm,x.sb s≠y.sb s):=by
    have hn:∀ u,u2≠.var u:=fun u e=>by
     have Q:=c4.o F M.o u e;have J:=w6.o u e;have Y:=HO.o;rw[e]at Y;cases Y with
     |here h=>have:=rM h;omega
     |there h hb hr=>rw[<-rM h,J]at hb;cases hb
    exact fun s=>i.o.sp.inv.loop (p:=(jE Ts p1,jE Ts p2)) h7.o hn (Tm.cn_fine _ a0.o.2.1) HO.o s
   go_wp2_with fail;go_ret;exact⟨by rw[vI a7.o];rfl,i.o.kp.trans (.of_below hz.out),by first|exact fun ⟨s,h⟩=>absurd h (a7.o s)|exact fun s h=>absurd h (a7.o s)⟩
  ·have z5:df b F u2=false:=ff ho;have HO:=zH ho;clear ho;obtain⟨d7,b0⟩:=i.o.nb;have a9:=hz.out.drew;obtain⟨z2,DP,d4,d3⟩:=(b0.below a9).put (v:=F) Z.o b3.o o4.o (i.o.gr.i64 o4.o) (by rw[i.o.gr.len];have:=HN.o;unfold maxLen;omega);have k4:=i.o.gr.below a9;have r7:O<y3.heap.size:=zD e3.o.mml.2 e3.o.kp.size;have k6:=h5.o.to a9;have p4:=d3.blk k6 (fun e=>by have e:xb=O:=e;have:=o5.o.2.2.2.2.1;omega);have b6:=k4.keep d3 (fun k e=>by
    have e:k=O:=e;subst e;obtain⟨f,hf,_⟩:=b0.below a9;obtain⟨es,c,hm,_⟩:=hf.is;exact⟨b4.o,fun _=>⟨es,c,hm⟩⟩)
   have g0:=zW (k4.dk.cell 3) (k6.cell 1);have z8:=zW (b6.dk.cell 3) (p4.cell 1);simp only[L3]at g0 z8;have j1:Yd (z2.ownsRow C.heap.size 134 2 (.slice (some ⟨tg,0,none⟩) L tc) L (jX S)):=d3.row (bJ e5.o a9) (fun g hg e=>by have e:g=O:=e;have:=(World.ownsRow.lt e5.o g hg).1;have:=i.o.mml.2;omega);have w4:=zH (i.o.below a9);have a2:=zH (zW d4 d3);clear b0 a9 d4 d3 k4 r7 k6 p4 b6 x0 x1 hz;go_wp2_with fail
   go_region_held3 (fun w'=>w'.cell? ⟨d,3,none⟩=some (.map (some O))/\w'.cell? ⟨xb,1,none⟩=some (.int .i64 F))
    (first|assumption|(go_keep;done))
    (fail)
   have c3:Yd (∀ W',zZ z2 W'->0<gk/\EV w d g cr a ca m1 O m3 m4 N rc ac Ts A (x,y) C C.heap.size S (upd b F u2) Mt (.slice (some ⟨tg,0,none⟩) L tc) W'/\mz Ts (cV Ts S) Mt<=gk-1/\mz Ts (cV Ts S) Mt<=33*(N*N)+1):=fun W' hW=>by
    have h:=w4.o;have hq:EV w d g cr a ca m1 O m3 m4 N rc ac Ts A (x,y) C C.heap.size S (upd b F u2) Mt (.slice (some ⟨tg,0,none⟩) L tc) z2/\mz Ts (cV Ts S) Mt<mz Ts (cV Ts ((p1,p2)::S)) Mt:=by
     have d5:=j1.o;rw[<-i4.o]at d5;rw[<-i4.o];rcases o1.o with ⟨Q,J⟩|⟨Q,J⟩
     ·have hx:=m.o.2.1;have hy:=n.o.2.1;rw[<-Q,M.o]at hx;rw[<-J]at hy;rcases h7.o with Y|Y
      ·exact h.bound b4.o HU.o hx hy Y.1 Y.2 b3.o (.inl ⟨rfl,rfl⟩) HO.o (c4.o F M.o) a2.o.2 a2.o.1 d5
      ·exact h.bound b4.o HU.o hy hx Y.1 Y.2 b3.o (.inr ⟨rfl,rfl⟩) HO.o (c4.o F M.o) a2.o.2 a2.o.1 d5
     ·have hx:=m.o.2.1;have hy:=n.o.2.1;rw[<-J]at hx;rw[<-Q,M.o]at hy;rcases h7.o with Y|Y
      ·exact h.bound b4.o HU.o hy hx Y.1 Y.2 b3.o (.inl ⟨rfl,rfl⟩) HO.o (c4.o F M.o) a2.o.2 a2.o.1 d5
      ·exact h.bound b4.o HU.o hx hy Y.1 Y.2 b3.o (.inr ⟨rfl,rfl⟩) HO.o (c4.o F M.o) a2.o.2 a2.o.1 d5
    have:=n8.o;exact⟨by omega,hq.1.below hW,by omega,by omega⟩
   go_wp2_with fail;refine n5.o (gk-1) S _ _ ?_ ⟨upd b F u2,Mt,(c3.o _ (by first|exact Below.refl _ _|exact zB.drew)).2⟩;have:=(c3.o z2 zB).1;omega
 ·have G:r=mx/\n2=my/\Tm.mk k1 F s1 e1 a1=.mk xk xv xs xm D/\u2=.mk yk yv ys ym E:=by
   rcases y0.o with h|⟨Q,J,Y,h4⟩
   ·exact h
   ·exfalso;rcases a8.o.2.2.2 with ⟨g1,_,_⟩|⟨_,_,g⟩
    ·exact n9.o (g1.symm.trans Q)
    ·have:=(j2.o.1 g).1;cases Y;exact l0 this
  have l1:∀ v,Tm.mk k1 F s1 e1 a1≠.var v:=fun v e=>l0 (aS e).1;have j5:=zH l1;have o3:Yd (∀ v,u2≠.var v):=x5.o l1;have e0:Yd (dK b (jE Ts p1) (.mk k1 F s1 e1 a1)/\dK b (jE Ts p2) u2):=by
   rw[e6.o.1,e6.o.2,G.2.2.1,G.2.2.2];exact⟨m.o.2.2.1,n.o.2.2.1⟩
  have l3:C.heap.size<y3.heap.size:=by
   obtain⟨_,_,h,_⟩:=e3.o.met;obtain⟨es,c,h,_⟩:=h.is;exact an h
  have f4:aE iL y5 C.heap.size v4 gm:=e4.o.1.same (fun o ho=>(a8.o.1.block _ l3).trans ((o5.o.1.block _ l3).symm.trans ho)) fun _ h=>h;have r4:gm (k2 r n2)=none:=by rw[G.1,G.2.1];exact e4.o.2.2
  have r5:iL (k2 r n2):=by rw[G.1,G.2.1];exact w9.o
  obtain⟨z6,z9,p3,a6⟩:=co (et:=4) (jp y5) (mt:=104) (by kernel_rfl) r5 (.bool true) f4;have l5:(Tm.mk k1 F s1 e1 a1,u2)∉Mt:=fun hm=>by
   obtain⟨i',V,g1,g2,g3⟩:=e4.o.2.1.2.2 _ _ hm;have Q:=i.o.gr.nd i' r (zK g1).1 (zK a3.o).1 (g1.trans a3.o.symm);have J:=i.o.gr.nd V n2 (zK g2).1 (zK Z.o).1 (g2.trans Z.o.symm);subst Q J;rw[show (Value.agg #[.int .i64 (i':Int),.int .i64 (V:Int)])=k2 i' V from rfl,r4]at g3;cases g3
  have t0:jH (gL gm (k2 r n2) (.bool true)) Ts ((Tm.mk k1 F s1 e1 a1,u2)::Mt):=e4.o.2.1.put (was:=false) (fun _ _ h=>h) a3.o Z.o ⟨fun h=>(by cases h),fun h=>absurd h l5⟩;have x6:=zH l5;have f5:∃ n',aE iL z6 C.heap.size n' (gL gm (k2 r n2) (.bool true)):=⟨_,p3⟩;obtain⟨n6,f5⟩:=f5;have j0:Yd ((∃ nm gm,aE iL z6 C.heap.size nm gm/\jH gm Ts ((Tm.mk k1 F s1 e1 a1,u2)::Mt))):=⟨_,_,f5,t0⟩;have a2:=zH a6;have f8:∀ {o:Nat} {c:Array Value} {T:TypeId} {f:Nat×Nat},y5.heap[o]?=some (Obj.cells c T f)->¬o=C.heap.size:=fun hc e=>by
   obtain⟨es,c,h,_⟩:=f4.is;rw[e,h]at hc;cases hc
  have U:=i.o.gr.keep a6 (fun k e=>by
   have e:k=C.heap.size:=e;subst e;obtain⟨es,c,h,_⟩:=f4.is;exact⟨HG.o.be.size,fun _=>⟨es,c,h⟩⟩)
  have h8:=zH U;have j1:Yd (z6.ownsRow C.heap.size 134 2 (.slice (some ⟨tg,0,none⟩) L tc) L (jX S)):=a6.row e5.o (fun g hg e=>by
   obtain⟨cs,f,hc⟩:=Lib.ownsRow_kind e5.o g hg;exact f8 hc e)
  have z3:O<C.heap.size:=i.o.mml.2;have c0:Yd ((∃ nb,jD O nb Ts b z6)/\ag (fun k=>k=O) C z6):=by
   obtain⟨d7,b0⟩:=i.o.nb;refine⟨⟨d7,?_⟩,dS i.o.kp (a6.below (B:=C.heap.size) i.o.kp.size fun k e=>Nat.le_of_eq e.symm)⟩;obtain⟨f,f1,f2,f3⟩:=b0;exact⟨f,f1.same (fun o ho=>(a6.block O (an ho) (fun e=>by have e:O=C.heap.size:=e;omega)).trans ho) fun _ h=>h,f2,f3⟩
  obtain⟨kz,vz,sz,ez,az⟩:=u2;obtain⟨g8,C2,c2,d2,D2,f2,J,E2,g2,i2,l7⟩:=i.o.gr.root I.o Z.o;have g5:=a8.o.2.2.1;rw[l7]at g5;have y2:=zH (a6.blk h5.o (f8 h5.o));have y6:=zH (a6.blk g5 (f8 g5));obtain⟨A1,q1,p7⟩:=U.args_form P.o;obtain⟨A2,q2,p8⟩:=U.args_form I.o;have h0:=zH (zW p7 p8);have o2:Yd (∃ c:Int,((c=0/\a1.length=az.length)↔(Tm.mk k1 F s1 e1 a1).hd (.mk kz vz sz ez az)=true)/\∀ W,Below z6.drew.heap.size z6.drew W->Calls prog 91 #[.agg (zX k1 F s1 g7 C1 c1 d1 D1 f1 Q E1 g1 i1).toArray,.agg (zX kz vz sz g8 C2 c2 d2 D2 f2 J E2 g2 i2).toArray] W fun e W'=>e=.returned (.int .i64 c)/\zZ W W'):=by
   have t1:=U.tc r (by rw[U.len];exact P.o);have t2:=U.tc n2 (by rw[U.len];exact I.o);have r1:=a3.o;have r2:=Z.o;rw[zO (by rw[U.len];exact P.o)]at r1;rw[zO (by rw[U.len];exact I.o)]at r2;rw[zI r1,x9.o]at t1;rw[zI r2,l7]at t2;obtain⟨c,Q,J⟩:=uv t1 t2 a0.o.1.1 a0.o.2.1 a0.o.1.2 a0.o.2.2 j5.o o3.o;exact⟨c,Q,fun W hW=>J W (U.be.drew.trans (hW.mono U.be.size))⟩
  have j3:Yd (∀ W,Below z6.drew.heap.size z6.drew W->R7 W xb (.int .i64 k1) (.int .i64 F) (.string s1) (.bool g7) (.slice C1 c1 d1) (.slice D1 f1 Q) (.slice E1 g1 i1)/\R7 W yb (.int .i64 kz) (.int .i64 vz) (.string sz) (.bool g8) (.slice C2 c2 d2) (.slice D2 f2 J) (.slice E2 g2 i2)/\W.cell? ⟨d,1,none⟩=some (.slice (some ⟨a,0,none⟩) N ca)/\W.cell? ⟨a,r,none⟩=some (.slice A1 (A r).length q1)/\W.cell? ⟨a,n2,none⟩=some (.slice A2 (A n2).length q2)):=fun W hW=>by
   have b6:=h8.o.drew.below hW;exact⟨(y2.o.drew.to hW).r7,(y6.o.drew.to hW).r7,b6.dk.cell 1,by rw[<-h0.o.1];exact b6.args r P.o,by rw[<-h0.o.2];exact b6.args n2 I.o⟩
  have g0:=j3.o _ zB;have t3:(0:Int)<=(r:Int):=by omega
  have t4:(r:Int)<(N:Int):=by have:=P.o;omega
  have t5:(0:Int)<=(n2:Int):=by omega
  have t6:(n2:Int)<(N:Int):=by have:=I.o;omega
  clear G l1 l3 f4 r4 r5 p3 f5 a6 l5 t0 f8 U z3 l7 g5 p7 p8 x1
  go_upto_region 18 with fail
  clear z9;obtain⟨a4,k9⟩:∃ a4:Bool,(Tm.mk k1 F s1 e1 a1).hd (.mk kz vz sz ez az)=a4:=⟨_,rfl⟩;have n7:=zH k9;obtain⟨c,q0,q7⟩:=o2.o;have n4:=zH q7;have f7:((A r).length=a1.length)/\((A n2).length=az.length):=⟨(h8.o.tell' P.o a3.o).1,(h8.o.tell' I.o Z.o).1⟩;have x3:=zH f7;have h6:Yd ((c=0/\(A r).length=(A n2).length)↔a4=true):=by rw[f7.1,f7.2,<-k9];exact q0
  clear k9 q0 q7 o2 f7
  go_cut [131] (fun S1 wx=>S1=.bool (!a4)/\∃ y7:World,y7=wx/\Yd (zZ z6 y7))
  case first=>
   by_cases hc:c=0
   ·subst hc;have q8:((0:Int) != 0)=false:=rfl;go_wp2_with fail
    go_region_held3 (fun W=>R7 W xb (.int .i64 k1) (.int .i64 F) (.string s1) (.bool g7) (.slice C1 c1 d1) (.slice D1 f1 Q) (.slice E1 g1 i1)/\R7 W yb (.int .i64 kz) (.int .i64 vz) (.string sz) (.bool g8) (.slice C2 c2 d2) (.slice D2 f2 J) (.slice E2 g2 i2)/\W.cell? ⟨d,1,none⟩=some (.slice (some ⟨a,0,none⟩) N ca)/\W.cell? ⟨a,r,none⟩=some (.slice A1 (A r).length q1)/\W.cell? ⟨a,n2,none⟩=some (.slice A2 (A n2).length q2))
     (first|with_reducible assumption|exact j3.o _ a5.o)
     (first
      |(go_at_call 91;(with_reducible refine (n4.o _ zB).mono ?_);rintro e y7 ⟨rfl,b7⟩;have a5:=zH b7;clear b7))
    have z0:(((A r).length:Int) != ((A n2).length:Int))=(!a4):=by
     have h:=h6.o;cases a4
     ·have:¬(A r).length=(A n2).length:=fun e=>(by cases h.1 ⟨by trivial,e⟩);simp only[Bool.not_false,bne_iff_ne];omega
     ·have:=(h.2 rfl).2;simp[this]
    go_wp2_with fail
    go_meet
    case rel=>exact⟨by rw[<-z0],_,rfl,(Below.refl z6.heap.size z6).drew.trans a5.o⟩
   ·have q8:(c != 0)=true:=by simp[hc]
    have y9:a4=false:=by
     cases h:a4 with
     |false=>rfl
     |true=>exact absurd (h6.o.2 h).1 hc
    subst y9;rcases c with (_|q)|q
    ·exact absurd rfl hc
    all_goals
     clear hc q8;go_wp2_with fail;refine wp_region_held_drew (S:=fun W=>R7 W xb (.int .i64 k1) (.int .i64 F) (.string s1) (.bool g7) (.slice C1 c1 d1) (.slice D1 f1 Q) (.slice E1 g1 i1)/\R7 W yb (.int .i64 kz) (.int .i64 vz) (.string sz) (.bool g8) (.slice C2 c2 d2) (.slice D2 f2 J) (.slice E2 g2 i2)/\W.cell? ⟨d,1,none⟩=some (.slice (some ⟨a,0,none⟩) N ca)/\W.cell? ⟨a,r,none⟩=some (.slice A1 (A r).length q1)/\W.cell? ⟨a,n2,none⟩=some (.slice A2 (A n2).length q2)) (by kernel_rfl) g0 (fun hHeld=>?_)
     (refine zT 0 ?_;try simp only[Act.put,L1,L2])
     (refine zT 1 ?_;try simp only[Act.put,L1,L2])
     (refine zR 2 fun K hK=>?_)
     go_simp;refine (n4.o _ zB).mono ?_;rintro e y7 ⟨rfl,b7⟩;refine hK.out _ _ (j3.o _ b7) (fun hHeld=>?_);clear hK K
     (try simp only[Act.put,L1,L2])
     (refine zT 3 ?_;try simp only[Act.put,L1,L2])
     (refine zT 4 ?_;try simp only[Act.put,L1,L2])
     (refine zS 5 ?_;try simp only[Act.put,L1,L2])
     (refine zS 6 ?_;try simp only[Act.put,L1,L2])
     (refine zS 7 ?_;try simp only[Act.put,L1,L2])
     (refine zS 8 ?_;try simp only[Act.put,L1,L2])
     (refine zS 9 ?_;try simp only[Act.put,L1,L2])
     (refine zS 10 ?_;try simp only[Act.put,L1,L2])
     (refine zS 11 ?_;try simp only[Act.put,L1,L2])
     (refine zS 12 ?_;try simp only[Act.put,L1,L2])
     (refine zS 13 ?_;try simp only[Act.put,L1,L2])
     (refine zS 14 ?_;try simp only[Act.put,L1,L2])
     (refine zS 15 ?_;try simp only[Act.put,L1,L2])
     (refine zS 16 ?_;try simp only[Act.put,L1,L2])
     (refine zS 17 ?_;try simp only[Act.put,L1,L2])
     (refine zS 18 ?_;try simp only[Act.put,L1,L2])
     (refine zS 19 ?_;try simp only[Act.put,L1,L2])
     (refine zS 20 ?_;try simp only[Act.put,L1,L2])
     (refine zS 21 ?_;try simp only[Act.put,L1,L2])
     (refine zT 22 ?_;try simp only[Act.put,L1,L2])
     (refine wpAnyH_done (by kernel_rfl) ?_ _)
     have a5:=zH b7;clear b7;go_wp2_with fail
     go_meet
     case rel=>exact⟨rfl,_,rfl,(Below.refl z6.heap.size z6).drew.trans a5.o⟩
  case rest=>
  obtain⟨rfl,y7,rfl,a5⟩:=hcut;clear g0 t3 t4 t5 t6;have h9:Yd (∀ W,Below C.heap.size z6 W->GR w d g cr a ca m1 O m3 m4 N rc ac Ts A W):=fun W hW=>HG.o.keep (dS c0.o.2 hW) (fun k e=>by
   have e:k=O:=e;subst e;obtain⟨f,hf,_⟩:=HB.o;obtain⟨es,c,hm,_⟩:=hf.is;exact⟨b4.o,fun _=>⟨es,c,hm⟩⟩)
  have j7:Yd (C.heap.size<=z6.heap.size):=c0.o.2.size;have j6:Yd (Below C.heap.size z6 y7):=a5.o.mono j7.o;cases a4 with
  |false=>
   have a7:Yd (∀ s:Int->Tm,x.sb s≠y.sb s):=fun s=>i.o.sp.inv.clash (p:=(jE Ts p1,jE Ts p2)) e0.o.1 e0.o.2 j5.o o3.o a0.o.1.1 a0.o.2.1 n7.o s;simp only[Bool.not_false];go_wp2_with fail;go_ret;exact⟨by rw[vI a7.o];rfl,dS c0.o.2 j6.o,by first|exact fun ⟨s,h⟩=>absurd h (a7.o s)|exact fun s h=>absurd h (a7.o s)⟩
  |true=>
   obtain⟨zz,v3⟩:∃ zz,zz=(A r).zip (A n2):=⟨_,rfl⟩;have e7:=zH v3;clear v3;have l2:=(h6.o.2 rfl).2;have b8:zz.length=(A r).length:=by rw[e7.o,List.length_zip,<-l2,Nat.min_self]
   have k3:(A r).length<=32:=by rw[x3.o.1];exact iy a0.o.1.1
   obtain⟨l,hl⟩:∃ l,(A r).length=l:=⟨_,rfl⟩;have i0:=zH hl;have i3:Yd ((A n2).length=l):=l2.symm.trans hl;rw[hl]at b8 k3;have k0:=zH b8;have g9:=zH k3;have c7:=h0.o;rw[i0.o,i3.o]at c7;have AT:=zH c7;have f0:=h9.o _ j6.o;have r0:=f0.dk.cell 1;have p5:=f0.args r P.o;have p6:=f0.args n2 I.o;rw[c7.1]at p5;rw[c7.2]at p6;simp only[L3]at r0;have t3:(0:Int)<=(r:Int):=by omega
   have t4:(r:Int)<(N:Int):=by have:=P.o;omega
   have t5:(0:Int)<=(n2:Int):=by omega
   have t6:(n2:Int)<(N:Int):=by have:=I.o;omega
   have x7:Yd (PL C z6 L zz S l (.slice (some ⟨tg,0,none⟩) L tc) y7):=by
    refine⟨?_,j6.o,a5.o.block _ ?_⟩
    ·rw[<-k0.o,List.drop_length,Nat.sub_self];exact bJ j1.o a5.o
    ·obtain⟨_,_,h,_⟩:=j0.o;obtain⟨es,c,h,_⟩:=h.is;exact an h
   clear l2 b8 hl k3 c7 f0;simp only[Bool.not_true];go_wp2_with fail;clear r0 p5 p6;obtain⟨b5,k8⟩:∃ b5,b5=gk:=⟨_,rfl⟩;have w8:=zH k8;have x4:Yd (mz Ts (cV Ts ((p1,p2)::S)) Mt<=b5/\mz Ts (cV Ts ((p1,p2)::S)) Mt<=33*(N*N)+1):=by rw[k8];exact n8.o
   clear k8
   go_loopg [8,16] l (fun gk s8 S2 wl=>∃ (tv:Value) (d8:Int),gk<=l/\tv=s8/\S2=.int .i64 d8/\d8=(gk:Int)-1/\Yd (PL C z6 L zz S gk tv wl))
   case atStart=>exact⟨_,_,zN _,rfl,rfl,by first|go_num|(have:=g9.o;unfold wrap64;omega)|omega,x7⟩
   case round=>
    obtain⟨tv,d8,DK,rfl,rfl,v2,HP⟩:=hrel;by_cases hg:0<gk
    ·obtain⟨V,rfl⟩:∃ g,gk=g+1:=⟨gk-1,by omega⟩;obtain rfl:d8=(V:Int):=by omega
     clear v2;have DI:(0:Int)<=(V:Int):=by omega
     have DJ:(V:Int)<(l:Int):=by omega
     have g6:V<zz.length:=by rw[k0.o];omega
     have c5:V<(A r).length:=by rw[i0.o];omega
     have c6:V<(A n2).length:=by rw[i3.o];omega
     obtain⟨es,cm,r8⟩:∃ es c,z6.heap[C.heap.size]?=some (Obj.map es c):=by
      obtain⟨_,_,h,_⟩:=j0.o;obtain⟨es,c,h,_⟩:=h.is;exact⟨es,c,h⟩
     obtain⟨tv',w',k7,k5⟩:=HP.o.push g6 r8 j7.o (by have:=x2.o;have:=g9.o;rw[k0.o];omega) 135;have n0:(zz[V]'g6).1=(A r)[V]'c5/\(zz[V]'g6).2=(A n2)[V]'c6:=by
      have h:=e7.o;subst h;rw[List.getElem_zip];exact⟨rfl,rfl⟩
     rw[n0.1,n0.2]at k7;have w3:=zH k7;have x8:=zH k5;obtain⟨e8,o6,c9,_⟩:=HG.o.arg P.o c5;obtain⟨e9,o7,d0,_⟩:=HG.o.arg I.o c6;have j4:Yd (∀ W,Below C.heap.size z6 W->W.cell? ⟨d,1,none⟩=some (.slice (some ⟨a,0,none⟩) N ca)/\W.cell? ⟨a,r,none⟩=some (.slice (some ⟨e8,0,none⟩) l o6)/\W.cell? ⟨a,n2,none⟩=some (.slice (some ⟨e9,0,none⟩) l o7)/\W.cell? ⟨e8,V,none⟩=some (.int .i64 ((A r)[V]:Int))/\W.cell? ⟨e9,V,none⟩=some (.int .i64 ((A n2)[V]:Int))):=fun W hW=>by
      have h:=h9.o W hW;have e1:=h.args r P.o;have e2:=h.args n2 I.o;obtain⟨b1,BY,g1,g2⟩:=h.arg P.o c5;obtain⟨b2,CT,g3,g4⟩:=h.arg I.o c6;rw[c9]at e1 g1;rw[d0]at e2 g3;rw[i0.o]at e1;rw[i3.o]at e2;simp only[Value.slice.injEq,Option.some.injEq,Addr.mk.injEq,and_true,true_and]at g1 g3;rw[<-g1.1]at g2;rw[<-g3.1]at g4;exact⟨h.dk.cell 1,e1,e2,g2,g4⟩
     have f6:=HP.o.be;have DM:=j4.o _ f6.drew;have DN:=j4.o _ (f6.trans ((ae wr (.cells #[.int .i64 ((A r)[V]:Int),.int .i64 ((A n2)[V]:Int)] 134)).mono (zC j7.o f6.size))).drew;have DL:=j4.o _ k5.be;clear k7 k5 n0 r8 c9 d0 f6 g6;generalize (A r)[V]'c5=i1 at*;generalize (A n2)[V]'c6=i2 at*;clear c5 c6;go_wp2_with fail
     go_region_held3 (fun W=>W.cell? ⟨d,1,none⟩=some (.slice (some ⟨a,0,none⟩) N ca)/\W.cell? ⟨a,r,none⟩=some (.slice (some ⟨e8,0,none⟩) l o6)/\W.cell? ⟨a,n2,none⟩=some (.slice (some ⟨e9,0,none⟩) l o7)/\W.cell? ⟨e8,V,none⟩=some (.int .i64 (i1:Int))/\W.cell? ⟨e9,V,none⟩=some (.int .i64 (i2:Int)))
      (with_reducible assumption)
      (refine dH (.tmp 145) (.tmp 167) 135 135 rfl rfl rfl w3.o ?_)
     go_wp2_with fail
     go_roundg V
     case measure=>omega
     case rel=>exact⟨tv',_,by omega,rfl,rfl,by first|go_num|(have:=g9.o;unfold wrap64;omega)|omega,x8.o⟩
    ·obtain rfl:gk=0:=by omega
     obtain rfl:d8 = -1:=by omega
     clear v2;have c3:Yd (0<b5/\EV w d g cr a ca m1 O m3 m4 N rc ac Ts A (x,y) C C.heap.size (zz++S) b ((Tm.mk k1 F s1 e1 a1,.mk kz vz sz ez az)::Mt) tv wr/\mz Ts (cV Ts (zz++S)) ((Tm.mk k1 F s1 e1 a1,.mk kz vz sz ez az)::Mt)<=b5-1/\mz Ts (cV Ts (zz++S)) ((Tm.mk k1 F s1 e1 a1,.mk kz vz sz ez az)::Mt)<=33*(N*N)+1):=by
      have t9:=HG.o.tell' P.o a3.o;have v0:=HG.o.tell' I.o Z.o;have m5:=i.o.stp HU.o a3.o Z.o e0.o.1 e0.o.2 (.inr (.inr ⟨j5.o,n7.o,x6.o,rfl,rfl,rfl⟩));have hz:=Dg t9 v0;rw[<-e7.o]at hz;have hS:cV Ts (zz++S)=a1.zip az++cV Ts S:=by
       unfold cV;rw[List.map_append,hz]
      rw[hS];have b8:=Df t9 v0;rw[<-e7.o,HG.o.len]at b8;have h:=HP.o;obtain⟨d7,f,f1,f2,f3⟩:=c0.o.1;obtain⟨A0,y8,q1,q2⟩:=j0.o;have hq:=x4.o;have Y:=m5.2.2;refine⟨by omega,⟨h9.o _ h.be,⟨d7,f,f1.same (fun o ho=>(h.be.block O i.o.mml.2).trans ho) fun _ h=>h,f2,f3⟩,⟨A0,y8,q1.same (fun o ho=>h.mm.trans ho) fun _ h=>h,q2⟩,?_,fun p hp=>?_,dS c0.o.2 h.be,i.o.mml,by rw[hS];exact m5.1,by rw[hS];exact m5.2.1⟩,?_,?_⟩
      ·have hr:=h.row;rw[Nat.sub_zero,List.drop_zero,Nat.add_comm]at hr;rw[zE,i4.o];exact hr
      ·rcases List.mem_append.1 hp with hp|hp
       ·exact b8 p hp
       ·exact i.o.stk p (List.mem_cons_of_mem _ hp)
      ·have Y:_<_:=Y;exact Nat.le_sub_one_of_lt (zD Y hq.1)
      ·exact zC (Nat.le_of_lt Y) hq.2
     go_wp2_with fail;refine n5.o (b5-1) (zz++S) _ _ ?_ ⟨b,_,c3.o.2⟩;have:=c3.o.1;have:=w8.o;omega
theorem wB {J:Nat->Act->World->Prop} {n:Nat} {K:Act->World->Prop} (h:∀ a w,Handed J n a w->K a w) {a:Act} {w:World} (b:Handed J n a w):K a w:=h _ _ b
theorem uo {w O:World} {d g cr a ca m1 m2 m3 m4 N nb nm:Nat} {rc:Nat->List Value} {ac:Nat->Value} {Ts:List Tm} {Is:Nat->List Nat} (hG:GR w d g cr a ca m1 m2 m3 m4 N rc ac Ts Is O) (hB:jD m2 nb Ts (fun _=>none) O) (hU:kg nm Ts) (hN:N<=50000) (j2:w.heap.size<=m2) {i j:Nat} {x y:Tm} (hx:Ts[i]?=some x) (Z:Ts[j]?=some y):
 Calls prog 67 #[.pointer (some ⟨d,0,none⟩),.int .i64 (i:Int),.int .i64 (j:Int)] O fun e W'=>e=.returned (.bool (qc x y))/\ag (fun k=>k=m2) O W'/\((∃ s:Int->Tm,x.sb s=y.sb s)->∃ b nb Mt,GR w d g cr a ca m1 m2 m3 m4 N rc ac Ts Is W'/\jD m2 nb Ts b W'/\kX Ts b/\iZ true (x,y) b [] Mt):=by
 have n8:=@run_makeMap prog;have HG:=zH hG;have HB:=zH hB;have HU:=zH hU;have HN:=zH hN;have k9:=zH j2;have HX:=zH hx;have HY:=zH Z;clear hG hB hU hN j2 hx Z;go_enter func67,ntmps67;go_wp2_with fail;generalize Z:World.alloc _ _=w1;have e9:Yd (∃ b Mt,EV w d g cr a ca m1 m2 m3 m4 N rc ac Ts Is (x,y) O O.heap.size ([(i,j)]) b Mt (.slice (some ⟨O.heap.size+1,0,none⟩) 1 1) (w1)/\mz Ts (cV Ts [(i,j)]) Mt<=33*(N*N)+1/\mz Ts (cV Ts [(i,j)]) Mt<=33*(N*N)+1):=by
  subst Z;have hb:zZ O ((O.alloc (.map #[] 0)).alloc (.cells #[.int .i64 (i:Int),.int .i64 (j:Int)] 134)):=(ae O _).alloc (by simp) _;have ex:jE Ts i=x:=jZ HX.o;have ey:jE Ts j=y:=jZ HY.o;have es:cV Ts [(i,j)]=[(x,y)]:=by simp[cV,ex,ey]
  have o0:=List.mem_of_getElem? HX.o;have o2:=List.mem_of_getElem? HY.o;refine⟨fun _=>none,[],⟨HG.o.below hb,⟨nb,HB.o.below hb⟩,⟨0,fun _=>none,.empty (c:=0) ?_,⟨fun k x h=>(by cases h),fun i j h=>(by cases h),fun x y h=>(by cases h)⟩⟩,?_,fun p hp=>?_,.of_below hb,⟨zN _,?_⟩,by rw[es];exact .start,by rw[es];exact .start o0 o2⟩,?_,?_⟩
  ·rw[Lib.alloc_old _ _ _ (by simp)];exact heap_alloc_new O _
  ·have:=World.ownsRow_lit (base:=O.heap.size) (e:=134) (size:=2) (O.alloc (.map #[] 0)) #[.int .i64 (i:Int),.int .i64 (j:Int)] 1 (by simp) (by decide) rfl;rw[show (O.alloc (.map #[] 0)).heap.size=O.heap.size+1 by simp]at this;exact this
  ·rw[List.mem_singleton.1 hp,<-HG.o.len];exact⟨(zK HX.o).1,(zK HY.o).1⟩
  ·obtain⟨f,h,_⟩:=HB.o;obtain⟨es,c,hm,_⟩:=h.is;exact an hm
  ·unfold mz;rw[es,HG.o.len];simp
  ·unfold mz;rw[es,HG.o.len];simp
 clear n8 Z
 go_loopg [8] (33*(N*N)+1) (fun gk s8 wr=>∃ (S:List (Nat×Nat)) (tv:Value),tv=s8/\Yd (∃ b Mt,EV w d g cr a ca m1 m2 m3 m4 N rc ac Ts Is (x,y) O O.heap.size (S) b Mt (tv) (wr)/\mz Ts (cV Ts S) Mt<=gk/\mz Ts (cV Ts S) Mt<=33*(N*N)+1))
 case atStart=>exact⟨_,_,rfl,e9⟩
 case round=>
  clear e9;obtain⟨S,tv,rfl,HJ⟩:=hrel;obtain⟨b,Mt,Q,d4,b8⟩:=HJ.o;cases S with
  |nil=>
   obtain⟨tA,tc,rfl⟩:=ek Q.todo;simp only[List.length_nil];have E:=zH Q;clear Q d4 b8 HJ;go_wp2_with fail;go_ret;have hs:=E.o.sp.inv.sol;obtain⟨f,hf⟩:=hs.1.res;have he:=(hs.2 f).1 hf.2.1;obtain⟨nb,d5⟩:=E.o.nb;exact⟨by rw[show qc x y=true from AL ⟨f,he⟩];rfl,E.o.kp,fun _=>⟨b,nb,Mt,E.o.gr,d5,E.o.ul.low,E.o.sp⟩⟩
  |cons p S=>
   obtain⟨tg,tc,rfl⟩:=Joins.ownsRow_form Q.todo (by simp);obtain⟨p1,p2⟩:=p;simp only[zV];have e0:=Q.todo.cellAt (S.length*2) (by simp only[zV];omega);have e1:=Q.todo.cellAt (S.length*2+1) (by simp only[zV];omega);rw[jX,List.getElem?_append_right (by rw[mD];omega),mD]at e0 e1;simp only[Nat.sub_self,List.getElem?_cons_zero,Nat.add_sub_cancel_left,List.getElem?_cons_succ]at e0 e1;have d1:S.length<=100000000000:=by
    have h:=zm (L:=Ts) (by rw[HG.o.len];exact HN.o) (gk:=33*(N*N)+1) (by rw[HG.o.len];exact zN _) b8;rw[cV,List.length_map,zV]at h;omega
   have d3:=Al Q.todo;simp only[zV]at d3;generalize h9:S.length=L at e0 e1 d1 d3 ⊢;have c4:=zH h9;clear h9;have m7:(0:Int)<=(L:Int):=by omega
   have m8:(L:Int)<=(tc:Int):=by omega
   have E:=zH Q;have b1:=zH (zW d4 b8);have k8:=zH d1;clear Q d4 b8 HJ;go_wp2_with fail;clear m7 m8 e0 e1 d3 d1;generalize Z:World.alloc _ _=y1;obtain⟨b2,a5⟩:=qo Z;have hS:=E.o.stk (p1,p2) (by simp);have j4:wr.ownsRow O.heap.size 134 2 (.slice (some ⟨tg,0,none⟩) L tc) L (jX S):=by
    have:=r9 (n:=S.length) rfl E.o.todo rfl;rw[c4.o]at this;exact this
   have n7:=HG.o.len;obtain⟨t1,d7⟩:∃ t,Ts[p1]?=some t:=⟨_,zO (by have:=hS.1;omega)⟩;obtain⟨t2,d8⟩:∃ t,Ts[p2]?=some t:=⟨_,zO (by have:=hS.2;omega)⟩;have l5:=zH d7;have l6:=zH d8;have n0:y1.drew.cell? ⟨wr.heap.size,0,none⟩=some (.int .i64 (p1:Int))/\y1.drew.cell? ⟨wr.heap.size,1,none⟩=some (.int .i64 (p2:Int)):=⟨a5.drew.cell 0,a5.drew.cell 1⟩;have j1:=E.o.ul.low;have i0:∀ t∈Ts,∀ v,t=.var v->0<=v:=fun t ht v e=>(HU.o.2 t ht v e).1;have c6:Yd (∀ (q:Nat) (t:Tm) (W':World),q<N->Ts[q]?=some t->Yd (Below y1.drew.heap.size y1.drew W')->Calls prog 89 #[zY d,.int .i64 (q:Int)] W' fun e z=>∃ m:Nat,e=.returned (.int .i64 (m:Int))/\Yd (∃ xt,m<N/\Ts[m]?=some xt/\dK b t xt/\(∀ v,xt=.var v->b v=none))/\Yd (Below y1.drew.heap.size y1.drew z)/\z.cell? ⟨wr.heap.size,0,none⟩=some (.int .i64 (p1:Int))/\z.cell? ⟨wr.heap.size,1,none⟩=some (.int .i64 (p2:Int))):=fun q t W' hq ht hW=>by
    obtain⟨p6,d5⟩:=E.o.nb;have i1:=(b2.drew).trans (hW.out.mono b2.size);refine (iG (E.o.gr.below i1) (d5.below i1) j1 i0 hq ht).mono ?_;rintro e z ⟨m,xt,rfl,h1,h2,h3,h4,h5⟩;have hz:=hW.out.trans (h5.mono hW.out.size);exact⟨m,rfl,⟨xt,h1,h2,h3,h4⟩,hz,(a5.drew.to hz).cell 0,(a5.drew.to hz).cell 1⟩
   have g7:=zH (c6.o p1 t1 y1.drew hS.1 d7 zB);have g8:=zH (fun W' h=>c6.o p2 t2 W' hS.2 d8 h);have g3:=zH j4;have c0:=zH b2;clear c6 j1 i0 hS j4 n7 d7 d8 b2 a5 Z
   go_region_held3 (fun l=>l.cell? ⟨wr.heap.size,0,none⟩=some (.int .i64 (p1:Int))/\l.cell? ⟨wr.heap.size,1,none⟩=some (.int .i64 (p2:Int)))
    (with_reducible assumption)
    (first
     |(go_at_call 89;(with_reducible refine g7.o.mono ?_);rintro e y2 ⟨r,rfl,g1,e7,n3⟩)
     |(go_at_call 89;(with_reducible refine (g8.o _ e7).mono ?_);rintro e U ⟨A,rfl,g2,e8,n4⟩))
   clear g7 g8 n0 n3 n4;obtain⟨⟨G,P,xs,xm,C⟩,b6,e4,i2,i4⟩:=g1.o;obtain⟨⟨V,yv,ys,ym,D⟩,b7,e5,i3,j0⟩:=g2.o;have d2:=c0.o.drew.trans (e8.o.mono c0.o.size);have c1:=zH (E.o.below d2);have Y:=c1.o.gr.drew;obtain⟨ux,UA,ua,uc,UB,ub,ud,UX,ul,up,e2⟩:=Y.root b6 e4;obtain⟨vx,VA,va,vc,VB,vb,vd,VX,vl,vp,e3⟩:=Y.root b7 e5;have b0:Yd (∀ l,Below U.drew.heap.size U.drew l->l.cell? ⟨d,0,none⟩=some (.slice (some ⟨g,0,none⟩) N cr)/\(l.cell? ⟨g,r*7,none⟩=some (.int .i64 G)/\l.cell? ⟨g,r*7+1,none⟩=some (.int .i64 P)/\l.cell? ⟨g,r*7+2,none⟩=some (.string xs)/\l.cell? ⟨g,r*7+3,none⟩=some (.bool ux)/\l.cell? ⟨g,r*7+4,none⟩=some (.slice UA ua uc)/\l.cell? ⟨g,r*7+5,none⟩=some (.slice UB ub ud)/\l.cell? ⟨g,r*7+6,none⟩=some (.slice UX ul up))/\(l.cell? ⟨g,A*7,none⟩=some (.int .i64 V)/\l.cell? ⟨g,A*7+1,none⟩=some (.int .i64 yv)/\l.cell? ⟨g,A*7+2,none⟩=some (.string ys)/\l.cell? ⟨g,A*7+3,none⟩=some (.bool vx)/\l.cell? ⟨g,A*7+4,none⟩=some (.slice VA va vc)/\l.cell? ⟨g,A*7+5,none⟩=some (.slice VB vb vd)/\l.cell? ⟨g,A*7+6,none⟩=some (.slice VX vl vp))):=fun l hw=>by
    have rx:=fun q hq=>(Y.below hw).roots r b6 q hq;have ry:=fun q hq=>(Y.below hw).roots A b7 q hq;rw[e2]at rx;rw[e3]at ry;exact⟨(Y.below hw).dk.cell 0,⟨rx 0 (by omega),rx 1 (by omega),rx 2 (by omega),rx 3 (by omega),rx 4 (by omega),rx 5 (by omega),rx 6 (by omega)⟩,ry 0 (by omega),ry 1 (by omega),ry 2 (by omega),ry 3 (by omega),ry 4 (by omega),ry 5 (by omega),ry 6 (by omega)⟩
   have n5:=b0.o U.drew zB;have p0:(0:Int)<=(r:Int):=by omega
   have p3:(r:Int)<(N:Int):=by omega
   have p4:(0:Int)<=(A:Int):=by omega
   have p5:(A:Int)<(N:Int):=by omega
   have o9:g<U.heap.size/\d<U.heap.size:=by
    obtain⟨cs,T,f,hc⟩:=Y.gk;exact⟨an hc,Y.dk.lt⟩
   have J:Yd (r<N/\Ts[r]?=some (.mk G P xs xm C)/\dK b t1 (.mk G P xs xm C)/\∀ v,Tm.mk G P xs xm C=.var v->b v=none):=⟨b6,e4,i2,i4⟩;have M:Yd (A<N/\Ts[A]?=some (.mk V yv ys ym D)/\dK b t2 (.mk V yv ys ym D)/\∀ v,Tm.mk V yv ys ym D=.var v->b v=none):=⟨b7,e5,i3,j0⟩;have g5:=zH e2;have g6:=zH e3;have g4:=zH (bJ g3.o d2);clear g1 g2 b6 e4 i2 i4 b7 e5 i3 j0 d2 Y e2 e3 c0 e7 e8 E g3
   go_upto_region 7 with fail
   go_cut [12,13] (fun o5 o6 wx=>∃ (W X:Nat) (y4:World),y4=wx/\o5=.pointer (some ⟨W,0,none⟩)/\o6=.pointer (some ⟨X,0,none⟩)/\Yd (zZ U y4/\ah y4 W 27 (zX G P xs ux UA ua uc UB ub ud UX ul up).toArray/\ah y4 X 27 (zX V yv ys vx VA va vc VB vb vd VX vl vp).toArray/\W≠X/\U.heap.size<=W/\U.heap.size<=X))
   case first=>
    go_region_held3 (fun l=>l.cell? ⟨d,0,none⟩=some (.slice (some ⟨g,0,none⟩) N cr)/\(l.cell? ⟨g,r*7,none⟩=some (.int .i64 G)/\l.cell? ⟨g,r*7+1,none⟩=some (.int .i64 P)/\l.cell? ⟨g,r*7+2,none⟩=some (.string xs)/\l.cell? ⟨g,r*7+3,none⟩=some (.bool ux)/\l.cell? ⟨g,r*7+4,none⟩=some (.slice UA ua uc)/\l.cell? ⟨g,r*7+5,none⟩=some (.slice UB ub ud)/\l.cell? ⟨g,r*7+6,none⟩=some (.slice UX ul up))/\(l.cell? ⟨g,A*7,none⟩=some (.int .i64 V)/\l.cell? ⟨g,A*7+1,none⟩=some (.int .i64 yv)/\l.cell? ⟨g,A*7+2,none⟩=some (.string ys)/\l.cell? ⟨g,A*7+3,none⟩=some (.bool vx)/\l.cell? ⟨g,A*7+4,none⟩=some (.slice VA va vc)/\l.cell? ⟨g,A*7+5,none⟩=some (.slice VB vb vd)/\l.cell? ⟨g,A*7+6,none⟩=some (.slice VX vl vp)))
     (first|assumption|exact b0.o _ (ae _ _)|exact b0.o _ ((ae _ _).alloc (by simp) _)|(go_keep;done))
     (fail)
    all_goals
     go_wp2_with fail
     go_meet
     case rel=>
      first
      |exact⟨U.heap.size,U.heap.size+1,_,rfl,rfl,rfl,uU (a:=#[.int .i64 G,.int .i64 P,.string xs,.bool ux,.slice UA ua uc,.slice UB ub ud,.slice UX ul up]) (b:=#[.int .i64 V,.int .i64 yv,.string ys,.bool vx,.slice VA va vc,.slice VB vb vd,.slice VX vl vp]) rfl⟩
      |exact⟨U.heap.size+1,U.heap.size,_,rfl,rfl,rfl,Br (a:=#[.int .i64 G,.int .i64 P,.string xs,.bool ux,.slice UA ua uc,.slice UB ub ud,.slice UX ul up]) (b:=#[.int .i64 V,.int .i64 yv,.string ys,.bool vx,.slice VA va vc,.slice VB vb vd,.slice VX vl vp]) rfl⟩
   case rest=>
   obtain⟨W,X,y4,rfl,rfl,rfl,o⟩:=hcut;clear b0 n5;have c2:=zH (c1.o.below o.o.1);have l2:=zH (bJ g4.o o.o.1);have c7:Yd (jE Ts p1=t1/\jE Ts p2=t2):=⟨jZ l5.o,jZ l6.o⟩;obtain⟨p7,gm,a8,a3⟩:=c2.o.met;have a6:iL (k2 r A):=pD (by have:=J.o.1;have:=HN.o;unfold aG;omega) (by have:=M.o.1;have:=HN.o;unfold aG;omega);have a7:=(bI (jp y4) (mt:=104) (by kernel_rfl) (z:=.bool false) (zeroValue4 _) (k:=k2 r A) a6 a8).2;have g9:Yd (Tm.mk G P xs xm C=.mk V yv ys ym D\/(Tm.mk G P xs xm C,Tm.mk V yv ys ym D)∈Mt->∀ gk,mz Ts (cV Ts ((p1,p2)::S)) Mt<=gk->0<gk/\EV w d g cr a ca m1 m2 m3 m4 N rc ac Ts Is (x,y) O O.heap.size (S) b Mt (.slice (some ⟨tg,0,none⟩) L tc) (y4)/\mz Ts (cV Ts S) Mt<=gk-1/\mz Ts (cV Ts S) Mt<=33*(N*N)+1):=fun hs gk o8=>by
    have h:=c2.o.skip HU.o J.o.2.1 M.o.2.1 (by rw[c7.o.1];exact J.o.2.2.1) (by rw[c7.o.2];exact M.o.2.2.1) hs (tv':=.slice (some ⟨tg,0,none⟩) L tc) (by rw[c4.o];exact l2.o);have h2:=b1.o.2;exact⟨by omega,h.1,by omega,by omega⟩
   by_cases a9:r=A
   ·have n6:((r:Int)==(A:Int))=true:=by simp[a9]
    have he:Tm.mk G P xs xm C=.mk V yv ys ym D:=by
     have h:=J.o.2.1;rw[a9,M.o.2.1]at h;exact (zI h).symm
    have HS:=zH (g9.o (.inl he) gk b1.o.1);clear a8 a3 a6 a7 he a9;go_wp2_with fail
    go_roundg (gk-1)
    case measure=>have:=HS.o.1;omega
    case rel=>exact⟨S,_,rfl,b,Mt,HS.o.2⟩
   ·have n6:((r:Int)==(A:Int))=false:=by simp;omega
    cases hgm:gm (k2 r A) with
    |some z=>
     obtain rfl:=a3.1 _ _ hgm;rw[hgm]at a7;simp only[Option.getD_some]at a7;have j3:(Tm.mk G P xs xm C,Tm.mk V yv ys ym D)∈Mt:=by
      obtain⟨u1,u2,h1,h2,h3⟩:=a3.2.1 r A (by rw[show (Value.agg #[.int .i64 (r:Int),.int .i64 (A:Int)])=k2 r A from rfl,hgm];rfl);rw[J.o.2.1]at h1;rw[M.o.2.1]at h2;cases h1;cases h2;exact h3
     have HS:=zH (g9.o (.inr j3) gk b1.o.1);clear a8 a3 a6 j3 hgm;go_wp2_with fail
     go_roundg (gk-1)
     case measure=>have:=HS.o.1;omega
     case rel=>exact⟨S,_,rfl,b,Mt,HS.o.2⟩
    |none=>
     rw[hgm]at a7;simp only[Option.getD_none]at a7;have l1:=zH a9;have l0:=zH (zW a8 (zW a3 hgm));have k7:=zH a6;clear a8 a3 a6 hgm a9;obtain⟨I,F⟩:∃ I:Bool,I=true↔(V=1/\(G≠1\/P<yv)):=⟨decide (V=1/\(G≠1\/P<yv)),by simp⟩;have l3:=zH F;have x0:=o.o.2.1.cell 0;have x1:=o.o.2.1.cell 1;have z0:=o.o.2.2.1.cell 0;have z1:=o.o.2.2.1.cell 1;simp only[L3]at x0 x1 z0 z1
     go_upto_region 9 with fail
     go_cut [82] (fun o7 wx=>o7=.bool I/\y4=wx)
     case first=>
      by_cases a0:V=1
      ·have o1:(V==1)=true:=by simp[a0]
       by_cases a4:G=1
       ·have n9:(G != 1)=false:=by simp[a4]
        have hs:I=decide (yv>P):=by
         rw[Bool.eq_iff_iff,F];simp[a0,a4]
        have HS:=zH hs;clear a0 a4 hs F;go_wp2_with fail
        go_meet
        case rel=>exact⟨by rw[HS.o],rfl⟩
       ·have n9:(G != 1)=true:=by simp[a4]
        have hs:I=true:=F.2 ⟨a0,.inl a4⟩;have HS:=zH hs;clear a0 a4 hs F;go_wp2_with fail
        go_meet
        case rel=>exact⟨by rw[HS.o],rfl⟩
      ·have o1:(V==1)=false:=by simp[a0]
       have hs:I=false:=by
        cases h:I with
        |false=>rfl
        |true=>exact absurd (F.1 h).1 a0
       have HS:=zH hs;clear a0 hs F;go_wp2_with fail
       go_meet
       case rel=>exact⟨by rw[HS.o],rfl⟩
     case rest=>
     obtain⟨rfl,rfl⟩:=hcut;clear x0 x1 z0 z1 F
     go_upto_if 82 with fail
     go_cut [10,11] (fun o3 o4 wx=>∃ (n1 n2:Nat) (y5:World),y5=wx/\o3=.int .i64 (n1:Int)/\o4=.int .i64 (n2:Int)/\Yd (zZ U y5/\ah y5 W 27 (rc n1).toArray/\ah y5 X 27 (rc n2).toArray/\((n1=r/\n2=A/\I=false)\/(n1=A/\n2=r/\I=true))))
     case first=>
      cases I with
      |false=>
       have c5:Yd (zZ U y4/\ah y4 W 27 (rc r).toArray/\ah y4 X 27 (rc A).toArray):=⟨o.o.1,by rw[g5.o];exact o.o.2.1,by rw[g6.o];exact o.o.2.2.1⟩;go_wp2_with fail
       go_meet
       case rel=>exact⟨r,A,_,rfl,rfl,rfl,c5.o.1,c5.o.2.1,c5.o.2.2,.inl ⟨rfl,rfl,by trivial⟩⟩
      |true=>
       have c3:Yd (∀ l,Below y4.drew.heap.size y4.drew l->R7 l W (.int .i64 G) (.int .i64 P) (.string xs) (.bool ux) (.slice UA ua uc) (.slice UB ub ud) (.slice UX ul up)):=fun l h=>(o.o.2.1.drew.to h).r7;have a1:=c3.o _ zB;go_wp2_with fail
       go_region_held3 (fun l=>R7 l W (.int .i64 G) (.int .i64 P) (.string xs) (.bool ux) (.slice UA ua uc) (.slice UB ub ud) (.slice UX ul up))
        (first|assumption|exact c3.o _ (ae _ _)|(go_keep;done))
        (fail)
       clear a1;generalize Z:World.drew _=y5;obtain⟨b3,k3⟩:=CP (a:=#[.int .i64 G,.int .i64 P,.string xs,.bool ux,.slice UA ua uc,.slice UB ub ud,.slice UX ul up]) Z;have j6:=o.o.2.1.to b3;have j5:=o.o.2.2.1.to b3;have k6:=zH b3;have c8:=zH j6;have h0:=zH j5;have h8:=zH k3;obtain⟨zb,e6⟩:∃ zb,y4.heap.size=zb:=⟨_,rfl⟩;have d6:W≠X/\W<zb/\X<zb/\U.heap.size<=W/\U.heap.size<=X:=by rw[<-e6];exact⟨o.o.2.2.2.1,o.o.2.1.lt,o.o.2.2.1.lt,o.o.2.2.2.2⟩
       rw[e6]at h8 ⊢;have a2:=zH d6;have f8:Yd (∀ l,ag (fun k=>k=W) y5 l->R7 l X (.int .i64 V) (.int .i64 yv) (.string ys) (.bool vx) (.slice VA va vc) (.slice VB vb vd) (.slice VX vl vp)):=fun l h=>(h.blk h0.o (fun e=>d6.1 e.symm)).r7;have a1:=f8.o y5.drew (ag.refl _ _).drew;obtain⟨x0,x1,x2,x3,x4,x5,x6⟩:=c8.o.r7;obtain⟨f0,f1,f2,f3,f4,f5,f6⟩:=c8.o.f7;clear b3 j6 j5 k3 e6 d6 Z c3;go_wp2_with fail;refine wp_region_held_drew (S:=fun l=>R7 l X (.int .i64 V) (.int .i64 yv) (.string ys) (.bool vx) (.slice VA va vc) (.slice VB vb vd) (.slice VX vl vp)) (by kernel_rfl) a1 (fun hHeld=>?_)
       (refine zT 0 ?_;try simp only[Act.put,L1,L2])
       (refine zT 1 ?_;try simp only[Act.put,L1,L2])
       (refine zT 2 ?_;try simp only[Act.put,L1,L2])
       (refine zR 3 fun K hK=>?_)
       go_simp;generalize Z:World.drew _=y6;obtain⟨j7,b4⟩:=CE Z c8.o;have l7:=zH j7;have f7:=zH b4;have k4:=b4.blk h8.o (fun e=>by have e:zb=W:=e;have:=a2.o;omega);have l8:=zH k4;refine hK.out _ _ (f8.o _ b4) (fun hHeld=>?_);clear hK K hHeld a1 x0 x1 x2 x3 x4 x5 x6 f0 f1 f2 f3 f4 f5 f6 j7 b4 k4
       (try simp only[Act.put,L1,L2])
       (refine wpAnyH_done (by kernel_rfl) ?_ _)
       have k1:=f7.o.blk h0.o (fun e=>by have e:X=W:=e;have:=a2.o;omega);have c9:=zH k1;have g0:Yd (∀ l,ag (fun k=>k=X) y6 l->R7 l zb (.int .i64 G) (.int .i64 P) (.string xs) (.bool ux) (.slice UA ua uc) (.slice UB ub ud) (.slice UX ul up)):=fun l h=>(h.blk l8.o (fun e=>by have e:zb=X:=e;have:=a2.o;omega)).r7;have a1:=g0.o y6.drew (ag.refl _ _).drew;obtain⟨x0,x1,x2,x3,x4,x5,x6⟩:=c9.o.r7;obtain⟨f0,f1,f2,f3,f4,f5,f6⟩:=c9.o.f7;clear k1 Z;go_wp2_with fail;refine wp_region_held_drew (S:=fun l=>R7 l zb (.int .i64 G) (.int .i64 P) (.string xs) (.bool ux) (.slice UA ua uc) (.slice UB ub ud) (.slice UX ul up)) (by kernel_rfl) a1 (fun hHeld=>?_)
       (refine zT 0 ?_;try simp only[Act.put,L1,L2])
       (refine zT 1 ?_;try simp only[Act.put,L1,L2])
       (refine zT 2 ?_;try simp only[Act.put,L1,L2])
       (refine zR 3 fun K hK=>?_)
       go_simp;generalize Z:World.drew _=y7;obtain⟨k0,b5⟩:=CE Z c9.o;have k5:=b5.blk l7.o (fun e=>by have e:W=X:=e;have:=a2.o;omega);have d0:Yd (zZ U y7/\ah y7 W 27 (rc A).toArray/\ah y7 X 27 (rc r).toArray):=by
        have h5:=o.o.1.trans (k6.o.mono o.o.1.size);have h6:=h5.trans (f7.o.below (B:=U.heap.size) h5.size fun k e=>by have e:k=W:=e;have:=a2.o;omega);have h7:=h6.trans (b5.below (B:=U.heap.size) h6.size fun k e=>by have e:k=X:=e;have:=a2.o;omega);exact⟨h7,by rw[g6.o];exact k5,by rw[g5.o];exact k0⟩
       refine hK.out _ _ (g0.o _ b5) (fun hHeld=>?_);clear hK K hHeld a1 x0 x1 x2 x3 x4 x5 x6 f0 f1 f2 f3 f4 f5 f6 k0 b5 k5 Z
       (try simp only[Act.put,L1,L2])
       (refine wpAnyH_done (by kernel_rfl) ?_ _)
       go_wp2_with fail
       go_meet
       case rel=>exact⟨A,r,_,rfl,rfl,rfl,d0.o.1,d0.o.2.1,d0.o.2.2,.inr ⟨rfl,rfl,by trivial⟩⟩
     case rest=>
     obtain⟨n1,n2,y5,rfl,rfl,rfl,l4⟩:=hcut;refine Bt (wr:=wr) (K1:=?K1) (K2:=?K2) HG HB HU HN k9 c4 b1 k8 c1 c2 g4 J M c7 l1 l0 k7 l3 o l4 ?HEND ?hK
     case hK=>assumption
     case HEND=>
      refine zH fun m5 S' tv' W'=>?_
      intros
      dsimp only;refine wB (by assumption) ?_
      go_roundg m5
      case measure=>assumption
      case rel=>exact⟨S',tv',rfl,by assumption⟩
end Go.Proofs.YtlhojoefhannnaaGreat

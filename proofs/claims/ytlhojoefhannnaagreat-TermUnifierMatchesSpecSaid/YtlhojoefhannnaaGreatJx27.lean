/- The reference's size of a node under the bindings. And 2 more texts. -/
import Derived.Test.YtlhojoefhannnaaGreatJx26
set_option linter.unusedVariables false
set_option linter.unusedSimpArgs false
set_option maxRecDepth 100000
set_option maxHeartbeats 51200000
namespace Go.Proofs.YtlhojoefhannnaaGreat
open Go.Proofs.Tryz Go.RowKit NumB
def sG (n:Nat):Nat:=min n 1000001
def vM (Ts:List Tm) (f:Int->Tm) (g:Value->Option Value):Prop:=∀ (j:Nat) (y:Tm),Ts[j]?=some y->g (.int .i64 (j:Int))=none\/g (.int .i64 (j:Int))=some (.int .i64 (sG (y.sb f).count:Int))
theorem Au {k v:Int} {s:ByteArray} {n:LN} {args:List Tm} (f:Int->Tm) (h:k≠1):((Tm.mk k v s n args).sb f).count=1+am (fJ f args):=by rw[bX f h,Tm.count]
theorem Da (n:Nat):sG n<=1000001:=Nat.min_le_right _ _
theorem Cq (a b:Nat):min (sG a+sG b) 1000001=sG (a+b):=by unfold sG;omega
section
theorem Ch {w:World} {d g cr a ca m1 m2 m3 m4 N nb:Nat} {rc:Nat->List Value} {ac:Nat->Value} {Ts:List Tm} {T:Nat->List Nat} {b:Int->Option Tm} {f:Int->Tm} (hL:kX Ts b) (hU:∀ t∈Ts,∀ v,t=.var v->0<=v) (hf:iY b f) (b3:m3≠m2/\w.heap.size<=m3):∀ (K:Nat) (i:Nat) (t:Tm),i<N->Ts[i]?=some t->(t.sb f).count<K->∀ (W:World) (ns:Nat) (gs:Value->Option Value),GR w d g cr a ca m1 m2 m3 m4 N rc ac Ts T W->jD m2 nb Ts b W->aE bw W m3 ns gs->vM Ts f gs->Calls prog 70 #[.pointer (some ⟨d,0,none⟩),.int .i64 ((i):Int)] (W) fun e z=>e=.returned (.int .i64 (sG (((t).sb f).count):Int))/\Yd (ag (fun k=>k=m3) (W) z/\∃ p n,aE bw z m3 p n/\vM Ts f n):=by
 intro K
 induction K with
 |zero=>intro i t _ _ h;omega
 |succ K ih=>
 intro i t hi ht hK W ns gs hG hB hM hS;have IH:=zH ih;have a8:Yd (Calls prog 89 #[zY d,.int .i64 (i:Int)] W fun e W'=>∃ (k:Nat),e=.returned (.int .i64 (k:Int))/\Yd (∃ x,k<N/\Ts[k]?=some x/\dK b t x/\(∀ v,x=.var v->b v=none))/\Yd (zZ W W')):=(iG hG hB hL hU hi ht).mono fun e W' ⟨k,x,e1,h1,h2,h3,h4,h5⟩=>⟨k,e1,⟨x,h1,h2,h3,h4⟩,h5⟩;have HG:=zH hG;have HB:=zH hB;have HM:=zH hM;have HS:=zH hS;have HF:=zH hf;have a7:=zH b3;have HK:=zH hK;clear ih hG hB hM hS hf b3 hK hi ht;go_enter func70,ntmps70;go_wp2_with fail;refine a8.o.mono ?_;rintro e w1 ⟨k,rfl,HX,F⟩;clear a8;have d2:m3<W.heap.size:=by
  obtain⟨es,c,h,_⟩:=HM.o.is;exact an h
 have r:=zH (HG.o.below F.out);have b8:=zH (HB.o.below F.out);have X:Yd (aE bw w1 m3 ns gs):=HM.o.same (fun o ho=>(F.out.block m3 (an ho)).trans ho) fun _ h=>h;have a5:Yd (ag (fun k=>k=m3) W w1):=.of_below F.out;clear d2 F HG HB HM;obtain⟨x,hk,hx,hd,b2⟩:=HX.o;have a9:=zH hx;have Y:Yd (t.sb f=x.sb f):=hd.sat HF.o.2.1;have c0:=zH b2;have c3:=zH hk;have J:=zH (r.o.ok x (List.mem_of_getElem? hx)).1;obtain⟨xk,xv,s,m,l⟩:=x;have Z:Yd (cZ Ts (T k) l):=r.o.tell' hk hx;have d4:=r.o.dk.cell 4;have d1:=r.o.dk.cell 1;obtain⟨Ak,ck,B⟩:=r.o.args_form hk;have a0:=r.o.args k hk;rw[B]at a0;have b7:=zH B;simp only[L3]at d4 d1;have e6:(0:Int)<=(k:Int):=by omega
 have e7:(k:Int)<(N:Int):=by omega
 have G:=(bI (bW w1) (mt:=67) (by kernel_rfl) (z:=.int .i64 0) (zeroValue3 _) (k:=.int .i64 (k:Int)) ⟨_,rfl⟩ X.o).1;clear B hk hx hd b2 HX;rcases HS.o k _ a9.o with hn|hs
 ·rw[hn]at G;simp only[Option.getD_none,Option.isSome_none]at G;obtain⟨L,E⟩:∃ L,(T k).length=L:=⟨_,rfl⟩;rw[E]at a0;have a6:=zH E;have b6:Yd (L<=32):=by
   have:=iy J.o;have e:(T k).length=l.length:=Z.o.1;show _<=_;omega
  have c6:Yd (∃ p n,aE bw w1 m3 p n/\vM Ts f n):=⟨_,_,X.o,HS.o⟩;clear E hn;go_wp2_with fail;clear G d4
  go_loopg [7,32] L (fun gk s7 d3 wr=>∃ (j z:Nat),gk+j=L/\d3=.int .i64 (j:Int)/\s7=.int .i64 (z:Int)/\z<=1000001/\Yd (z=sG (1+am (fJ f (l.take j)))/\ag (fun k=>k=m3) W wr/\GR w d g cr a ca m1 m2 m3 m4 N rc ac Ts T wr/\jD m2 nb Ts b wr/\∃ p n,aE bw wr m3 p n/\vM Ts f n))
  case atStart=>exact⟨0,1,by omega,rfl,rfl,by omega,by simp[bE,sG,am],a5.o,r.o,b8.o,c6.o⟩
  case round=>
   clear d1 a0;obtain⟨j,z,d8,rfl,rfl,hz,D⟩:=hrel;have a2:(T k).length=l.length:=Z.o.1;by_cases hj:j<L
   ·have a1:j<(T k).length:=by rw[a6.o];exact hj
    have A:j<l.length:=by rw[<-a2];exact a1
    obtain⟨gb,c2,e1,e0⟩:=D.o.2.2.1.arg c3.o a1;have e2:=b7.o.symm.trans e1
    injection e2 with e3 e4 e5
    subst e3 e5;have P:=Z.o.2 j A a1;generalize (T k)[j]=i2 at e0 P;have U:i2<N:=by rw[<-r.o.len];exact (zK P).1
    have I:xk≠1:=fun e=>by
     have h:=aK J.o e;rw[Tm.var]at h
     injection h with _ _ _ _ h
     rw[h]at A;simp at A
    have b4:∀ u,Tm.mk xk xv s m l≠.var u:=fun u e=>I (aS e).1;have B:=dN b4 (Tm.cn_fine _ J.o) (zQ A) f;have d7:((j:Nat):Int)<(L:Int):=by omega
    have d6:(0:Int)<=((j:Nat):Int):=by omega
    have C:Yd (Calls prog 70 #[zY d,.int .i64 ((i2):Int)] (wr) fun e z=>e=.returned (.int .i64 (sG (((l[j]).sb f).count):Int))/\Yd (ag (fun k=>k=m3) (wr) z/\∃ p n,aE bw z m3 p n/\vM Ts f n)):=by
     obtain⟨q0,q3,q1,q2,p,n,q4,q5⟩:=D.o;exact IH.o i2 _ U P (by have:=HK.o;rw[Y.o]at this;exact zD B (Nat.le_of_lt_succ this)) wr p n q1 q2 q4 q5
    have hq:=Da ((l[j].sb f).count);have V:min (z+sG ((l[j].sb f).count)) 1000001=sG (1+am (fJ f (l.take (j+1)))):=by
     rw[D.o.1,Cq,jy,jy,bq _ (by rw[dZ];exact A),kU f A (by rw[dZ];exact A)];rw[Nat.add_assoc]
    have c7:=zH V;clear P U B e1 b4 I V;generalize sG ((l[j].sb f).count)=y at*;go_wp2_with fail;refine C.o.mono ?_;rintro e z2 ⟨rfl,HZ⟩;clear C e0;go_wp2_with fail;obtain⟨a3,b5,M,Q,S⟩:=HZ.o;have d0:=D.o.2.2.1.keep a3 fun b e=>by
     have e:b=m3:=e;subst e;obtain⟨_,_,h,_⟩:=D.o.2.2.2.2;obtain⟨es,c,h,_⟩:=h.is;exact⟨a7.o.2,fun _=>⟨es,c,h⟩⟩
    have c9:=D.o.2.2.2.1.keep a3 (fun e=>a7.o.1 e.symm)
    go_roundg (gk-1)
    case measure=>omega
    case rel=>exact⟨j+1,min (z+y) 1000001,by omega,(by have d5:=b6.o;rw[show wrap64 ((j:Int)+1)=((j+1:Nat):Int) by unfold wrap64;omega]),(by congr 1;omega),Nat.min_le_right _ _,c7.o,D.o.2.1.trans a3,d0,c9,b5,M,Q,S⟩
   ·obtain rfl:j=L:=by omega
    obtain⟨b5,M,Q,S⟩:=D.o.2.2.2.2;obtain⟨z2,e8,O,b0⟩:=co (w:=wr) (bW _) (et:=3) (mt:=67) (by kernel_rfl) (k:=.int .i64 (k:Int)) ⟨_,rfl⟩ (.int .i64 (z:Int)) Q;have d4:=D.o.2.2.1.dk.cell 4;simp only[L3]at d4;have a4:z=sG (((Tm.mk xk xv s m l).sb f).count):=by
     rw[D.o.1];by_cases I:xk=1
     ·have h:=aK J.o I;have h2:=HF.o.1 xv (c0.o xv h);have h3:=h;rw[Tm.var]at h3
      injection h3 with _ _ _ _ h3
      rw[h,bZ,h2,h3,List.take_nil,bE];rfl
     ·rw[Au f I,zG (by rw[<-a2,a6.o];exact zN _)]
    obtain⟨n4,O⟩:∃ n',aE bw z2 m3 n' (gL M (.int .i64 (k:Int)) (.int .i64 (z:Int))):=⟨_,O⟩;have b1:vM Ts f (gL M (.int .i64 (k:Int)) (.int .i64 (z:Int))):=fun i y hy=>by
     unfold gL;by_cases e:i=k
     ·subst e;rw[a9.o]at hy;cases hy;exact .inr (by rw[if_pos rfl,a4])
     ·have:=S i y hy;rw[if_neg (fun q=>e (by simp at q;omega))];exact this
    have c8:=zH a4;have c5:=zH b1;have c4:=zH O;have c1:Yd (ag (fun k=>k=m3) W z2):=D.o.2.1.trans b0;clear a4 b1 O b0 Q S a2;go_wp2_with fail;go_ret;exact⟨by rw[Y.o,c8.o];rfl,c1.o,_,_,c4.o,c5.o⟩
 ·rw[hs]at G;simp only[Option.getD_some,Option.isSome_some]at G;go_wp2_with fail;go_ret;exact⟨by rw[Y.o];rfl,a5.o,ns,gs,X.o,HS.o⟩
end
end Go.Proofs.YtlhojoefhannnaaGreat
namespace Go.Proofs.YtlhojoefhannnaaGreat
open Go.Proofs.Tryz Go.RowKit NumB
def qw (Ts:List Tm) (f:Int->Tm) (R:Nat->Prop) (w:World) (g:Value->Option Value):Prop:=∀ (j:Nat) (y:Tm),Ts[j]?=some y->g (.int .i64 (j:Int))=none\/∃ cx:List Value,g (.int .i64 (j:Int))=some (.agg cx.toArray)/\bF R w (y.sb f) cx
theorem qw.map {Ts:List Tm} {f:Int->Tm} {R Q:Nat->Prop} {w w':World} {g:Value->Option Value} (h:qw Ts f R w g) (d:∀ {t cs},bF R w t cs->bF Q w' t cs):qw Ts f Q w' g:=fun j y e=>(h j y e).imp id fun ⟨a,b,c⟩=>⟨a,b,d c⟩
theorem aE.lt {a:Value->Prop} {w:World} {b n:Nat} {f:Value->Option Value} (h:aE a w b n f):b<w.heap.size:=by
 obtain⟨d,c,h,_⟩:=h.is;exact an h
theorem aE.kept {a:Value->Prop} {w w':World} {b n:Nat} {f:Value->Option Value} (h:aE a w b n f) {p:Nat->Prop} (d:ag p w w') (e:¬p b):aE a w' b n f:=h.same (fun o c=>(d.block b (an c) e).trans c) fun _ h=>h
theorem bF.over {R Q:Nat->Prop} {w w':World} {t:Tm} {cs:List Value} (h:bF R w t cs) {p:Nat->Prop} (d:ag p w w') (e:∀ b,R b->b<w.heap.size->¬p b) (f:∀ b,R b->b<w.heap.size->Q b):bF Q w' t cs:=
 ((h.mono (q:=fun b=>(R b/\b<w.heap.size)) fun b c a=>⟨c,a⟩).to d.size fun b c a=>d.block b a (e b c.1 a)).mono fun b c _=>f b c.1 c.2
theorem bF.overMap {R:Nat->Prop} {w w':World} {t:Tm} {cs:List Value} (h:bF R w t cs) {m n:Nat} {i:Value->Prop} {g:Value->Option Value} (e:aE i w m n g) (f:ag (fun k=>k=m) w w'):bF R w' t cs:=by
 obtain⟨j,c,e,_⟩:=e.is;exact ((h.noMap e).to f.size fun b a d=>f.block b d a.2).mono fun b a _=>a.1
section
theorem xi {w:World} {d g cr a ca m1 m2 m3 m4 N nb:Nat} {rc:Nat->List Value} {ac:Nat->Value} {Ts:List Tm} {Is:Nat->List Nat} {b:Int->Option Tm} {f:Int->Tm} (hL:kX Ts b) (hU:∀ t∈Ts,∀ v,t=.var v->0<=v) (hf:iY b f) (l1:m4≠m2/\w.heap.size<=m4):∀ (K:Nat) (i:Nat) (t:Tm),i<N->Ts[i]?=some t->(t.sb f).count<K->∀ (W:World) (ns:Nat) (gs:Value->Option Value) (R:Nat->Prop),(∀ k,k<w.heap.size->R k)->GR w d g cr a ca m1 m2 m3 m4 N rc ac Ts Is W->jD m2 nb Ts b W->aE bw W m4 ns gs->qw Ts f R W gs->Calls prog 71 #[.pointer (some ⟨d,0,none⟩),.int .i64 ((i):Int)] (W) fun e z=>∃ P:List Value,e=.returned (.agg P.toArray)/\Yd (bF (fun b=>(R) b\/(W).heap.size<=b) z ((t).sb f) P/\ag (fun k=>k=m4) (W) z/\∃ B r,aE bw z m4 B r/\qw Ts f (fun b=>(R) b\/(W).heap.size<=b) z r):=by
 intro K
 induction K with
 |zero=>intro i t _ _ h;omega
 |succ K ih=>
 intro i t hi ht hK W ns gs R hR hG hB hM hS;have IH:=zH ih;have k0:Yd (∀ W',zZ W W'->Calls prog 89 #[zY d,.int .i64 (i:Int)] W' fun e W2=>∃ (k:Nat),e=.returned (.int .i64 (k:Int))/\Yd (∃ x,k<N/\Ts[k]?=some x/\dK b t x/\(∀ v,x=.var v->b v=none))/\Yd (zZ W' W2)):=fun W' hb=>(iG (hG.below hb) (hB.below hb) hL hU hi ht).mono fun e W2 ⟨k,x,e1,h1,h2,h3,h4,h5⟩=>⟨k,e1,⟨x,h1,h2,h3,h4⟩,h5⟩;have HG:=zH hG;have HB:=zH hB;have HM:=zH hM;have HS:=zH hS;have HF:=zH hf;have d2:=zH l1;have HK:=zH hK;have HR:=zH hR;have g8:Yd (w.heap.size<=W.heap.size):=hG.be.size;clear ih hG hB hM hS hf l1 hK hi ht hR;go_enter func71,ntmps71;go_wp2_with fail;generalize hy:World.alloc _ _=y1;obtain⟨f0,k7⟩:=qo hy;refine (k0.o _ f0).mono ?_;rintro e w1 ⟨k,rfl,HX,h6⟩;have hb:zZ W w1:=f0.trans (h6.out.mono f0.size);have a6:=zH (k7.to h6.out);have a4:=zH (HG.o.below hb);have n3:=zH (HB.o.below hb);have g4:Yd (aE bw w1 m4 ns gs):=HM.o.kept (p:=fun _=>False) (.of_below hb) fun h=>h;have g6:Yd (qw Ts f (fun k=>R k/\k<W.heap.size) w1 gs):=HS.o.map fun h=>h.over (p:=fun _=>False) (.of_below hb) (fun _ _ _ h=>h) fun k h1 h2=>⟨h1,h2⟩;have b6:=zH hb;have d0:Yd (m4<W.heap.size):=HM.o.lt;have g5:Yd (∀ k,k=m4->w.heap.size<=k/\(k<W.heap.size->∃ es c,W.heap[k]?=some (Obj.map es c))):=fun k e=>by
  subst e;obtain⟨es,c,h,_⟩:=HM.o.is;exact⟨d2.o.2,fun _=>⟨es,c,h⟩⟩
 clear hy f0 k7 h6 hb k0 HM HS;obtain⟨x,n,hx,hd,k3⟩:=HX.o;have d4:=zH hx;have g7:Yd (t.sb f=x.sb f):=hd.sat HF.o.2.1;have n7:=zH k3;have A:=zH n;have b8:=zH (a4.o.ok x (List.mem_of_getElem? hx)).1;obtain⟨Y,Z,s,m,o⟩:=x;have g9:Yd (cZ Ts (Is k) o):=a4.o.tell' n hx;have d5:=a4.o.dk.cell 5;simp only[L3]at d5;have v2:(0:Int)<=(k:Int):=by omega
 have v3:(k:Int)<(N:Int):=by omega
 have b0:=(bI (bW w1) (mt:=72) (by kernel_rfl) (zeroValue27 _) (k:=.int .i64 (k:Int)) ⟨_,rfl⟩ g4.o).1;clear n hx hd k3 HX;rcases g6.o k _ d4.o with hn|⟨P,hs,ht⟩
 ·rw[hn]at b0;simp only[Option.getD_none,Option.isSome_none]at b0;have r7:=zH hn;clear hn
  go_upto_region 5 with fail
  generalize hy:World.alloc _ _=w5;obtain⟨f3,-⟩:=qo hy;have C:=zH (a4.o.below f3);have j4:=zH (b6.o.trans (f3.mono b6.o.size));have g1:=zH f3;clear hy f3 b0 d5;obtain⟨ng,A1,a1,c1,C1,M,f1,X,xl,xc,f6⟩:=C.o.root A.o d4.o;have i1:=C.o.nil6 k A.o;rw[f6]at i1;simp only[List.getElem?_cons_succ,List.getElem?_cons_zero,Option.some.injEq,Value.slice.injEq]at i1;obtain⟨rfl,rfl,rfl⟩:=i1;have c0:=C.o.dk.cell 0;have r0:=C.o.roots k A.o 0 (by omega);have r1:=C.o.roots k A.o 1 (by omega);have r2:=C.o.roots k A.o 2 (by omega);have r3:=C.o.roots k A.o 3 (by omega);have r4:=C.o.roots k A.o 4 (by omega);have r5:=C.o.roots k A.o 5 (by omega);have r6:=C.o.roots k A.o 6 (by omega);rw[f6]at r0 r1 r2 r3 r4 r5 r6;simp only[L3,Nat.add_zero]at c0 r0 r1 r2 r3 r4 r5 r6;have o4:=zH f6;clear f6
  go_upto_region 6 with fail
  generalize hy:World.alloc _ _=w7;obtain⟨f4,k9⟩:=qo hy;have c7:=zH (C.o.below f4);have n5:=zH (j4.o.trans (f4.mono j4.o.size));have b7:=zH (g1.o.trans (f4.mono g1.o.size));have b1:W.heap.size<w5.heap.size:=zD a6.o.lt g1.o.size;generalize w5.heap.size=l at*;have a5:=zH b1;have o6:=zH k9;have o9:b=b:=rfl;obtain⟨Ak,ck,a2⟩:=c7.o.args_form A.o;have d1:=c7.o.dk.cell 1;have a0:=c7.o.args k A.o;rw[a2]at a0;simp only[L3]at d1;obtain⟨L,h0⟩:∃ L,(Is k).length=L:=⟨_,rfl⟩;rw[h0]at a0;have j7:=zH h0;have n1:=zH a2;have j2:Yd (L<=32):=by
   have:=iy b8.o;have e:(Is k).length=o.length:=g9.o.1;show _<=_;omega
  clear h0 a2 b1 k9 f4 hy c0 r0 r1 r2 r3 r4 r5 r6 o9;go_wp2_with fail;clear d1 a0
  go_loopg [39] L (fun gk q9 wr=>∃ (j:Nat) (J:Value),gk+j=L/\q9=.int .i64 (j:Int)/\Yd (ah (wr) l 27 #[.int .i64 Y,.int .i64 Z,.string s,.bool ng,.slice A1 a1 c1,.slice C1 M f1,(J)]/\ag (fun k=>k=m4) W (wr)/\GR w d g cr a ca m1 m2 m3 m4 N rc ac Ts Is (wr)/\jD m2 nb Ts b (wr)/\eM (fun k=>(R k/\k<W.heap.size)\/l+1<=k) (wr) (l+1) (J) ((fJ f o).take (j))/\ah (wr) W.heap.size 27 (zX 0 0 ⟨#[]⟩ false none 0 0 none 0 0 none 0 0).toArray/\∃ B r,aE bw (wr) m4 B r/\qw Ts f (fun k=>((fun k=>(R k/\k<W.heap.size)\/l+1<=k) k)/\some k≠(J).ownBlock) (wr) r))
  case atStart=>
   refine⟨0,.slice none 0 0,by omega,rfl,o6.o,.of_below n5.o,c7.o,n3.o.below b7.o,.nil _ _ _,a6.o.to b7.o,ns,gs,g4.o.kept (p:=fun _=>False) (.of_below b7.o) fun h=>h,g6.o.map fun h=>h.over (p:=fun _=>False) (.of_below b7.o) (fun _ _ _ h=>h) fun k h1 _=>⟨.inl h1,fun e=>by cases e⟩⟩
  case round=>
   obtain⟨j,J,v0,rfl,HJ⟩:=hrel;have l0:(Is k).length=o.length:=g9.o.1;by_cases hj:j<L
   ·have h9:j<(Is k).length:=by rw[j7.o];exact hj
    have U:j<o.length:=by rw[<-l0];exact h9
    obtain⟨gb,c2,e1,e0⟩:=HJ.o.2.2.1.arg A.o h9;have e2:=n1.o.symm.trans e1
    injection e2 with e3 e4 e5
    subst e3 e5;have f5:=g9.o.2 j U h9;generalize (Is k)[j]=i2 at e0 f5;have k6:i2<N:=by rw[<-a4.o.len];exact (zK f5).1
    have b4:Y≠1:=fun e=>by
     have h:=aK b8.o e;rw[Tm.var]at h
     injection h with _ _ _ _ h
     rw[h]at U;simp at U
    have l4:∀ u,Tm.mk Y Z s m o≠.var u:=fun u e=>b4 (aS e).1;have a2:=dN l4 (Tm.cn_fine _ b8.o) (zQ U) f;have t9:((j:Nat):Int)<(L:Int):=by omega
    have t8:(0:Int)<=((j:Nat):Int):=by omega
    obtain⟨tj,m5⟩:∃ tj,o[j].sb f=tj:=⟨_,rfl⟩;have n6:Yd (Calls prog 71 #[zY d,.int .i64 (i2:Int)] wr.drew fun e z=>∃ P:List Value,e=.returned (.agg P.toArray)/\Yd (bF (fun k=>(((fun k=>(R k/\k<W.heap.size)\/l+1<=k) k)/\some k≠J.ownBlock)\/wr.drew.heap.size<=k) (z) tj (P)/\ag (fun k=>k=m4) wr.drew (z)/\∃ B r,aE bw (z) m4 B r/\qw Ts f (fun k=>(((fun k=>(R k/\k<W.heap.size)\/l+1<=k) k)/\some k≠J.ownBlock)\/wr.drew.heap.size<=k) (z) r)):=by
     obtain⟨q1,q2,q3,q4,q5,q6,B,r,q7,q8⟩:=HJ.o;refine (IH.o i2 _ k6 f5 (by have:=HK.o;rw[g7.o]at this;exact zD a2 (Nat.le_of_lt_succ this)) wr.drew B r (fun k=>((fun k=>(R k/\k<W.heap.size)\/l+1<=k) k)/\some k≠J.ownBlock) (fun k n=>⟨.inl ⟨HR.o k n,zD n g8.o⟩,fun e=>by have:=(q5.own e.symm).1;have:=a5.o;have:=g8.o;omega⟩) q3.drew (q4.below zB.drew) (q7.kept (p:=fun _=>False) (.of_below zB.drew) fun h=>h) (q8.map fun h=>h.to zA fun _ _ _=>rfl)).mono ?_;rintro e z ⟨P,rfl,HZ⟩;rw[m5]at HZ;exact⟨P,rfl,HZ⟩
    have p9:(fJ f o).take (j+1)=(fJ f o).take j++[tj]:=by
     rw[List.take_succ_eq_append_getElem (by rw[dZ];exact U),kU f U (by rw[dZ];exact U),m5]
    have l6:((fJ f o).take j).length<=1000:=by
     have:=j2.o;rw[List.length_take,dZ];omega
    have t6:=HJ.o.1.drew.cell 6;simp only[L3]at t6;have o5:Yd (∀ (V:World) (P:List Value),Yd (bF (fun k=>(((fun k=>(R k/\k<W.heap.size)\/l+1<=k) k)/\some k≠J.ownBlock)\/wr.drew.heap.size<=k) (V) tj (P)/\ag (fun k=>k=m4) wr.drew (V)/\∃ B r,aE bw (V) m4 B r/\qw Ts f (fun k=>(((fun k=>(R k/\k<W.heap.size)\/l+1<=k) k)/\some k≠J.ownBlock)\/wr.drew.heap.size<=k) (V) r)->V.cell? ⟨l,6,none⟩=some J/\(V.alloc (.cells P.toArray 27)).cell? ⟨l,6,none⟩=some J/\∃ D F E O,(Builtin.append_ #[25,25] 25 #[J,.slice (some ⟨V.heap.size,0,none⟩) 1 1]).run prog (V.alloc (.cells P.toArray 27))=.ok (.slice D F E) O/\O.cell? ⟨l,6,none⟩=some J/\O.frozen? ⟨l,6,none⟩=false/\Yd (ah ((O.setCell ⟨l,6,none⟩ (Value.slice D F E))) l 27 #[.int .i64 Y,.int .i64 Z,.string s,.bool ng,.slice A1 a1 c1,.slice C1 M f1,((Value.slice D F E))]/\ag (fun k=>k=m4) W ((O.setCell ⟨l,6,none⟩ (Value.slice D F E)))/\GR w d g cr a ca m1 m2 m3 m4 N rc ac Ts Is ((O.setCell ⟨l,6,none⟩ (Value.slice D F E)))/\jD m2 nb Ts b ((O.setCell ⟨l,6,none⟩ (Value.slice D F E)))/\eM (fun k=>(R k/\k<W.heap.size)\/l+1<=k) ((O.setCell ⟨l,6,none⟩ (Value.slice D F E))) (l+1) ((Value.slice D F E)) ((fJ f o).take ((j+1)))/\ah ((O.setCell ⟨l,6,none⟩ (Value.slice D F E))) W.heap.size 27 (zX 0 0 ⟨#[]⟩ false none 0 0 none 0 0 none 0 0).toArray/\∃ B r,aE bw ((O.setCell ⟨l,6,none⟩ (Value.slice D F E))) m4 B r/\qw Ts f (fun k=>((fun k=>(R k/\k<W.heap.size)\/l+1<=k) k)/\some k≠((Value.slice D F E)).ownBlock) ((O.setCell ⟨l,6,none⟩ (Value.slice D F E))) r)):=fun V P HZ=>by
     obtain⟨q1,q2,q3,q4,q5,q6,B,r,q7,q8⟩:=HJ.o;obtain⟨p1,p2,j0,d7,p3,p4⟩:=HZ.o;have G:ag (fun _=>False) wr wr.drew:=.of_below zB.drew;have p7:∀ k,k=m4->w.heap.size<=k/\(k<wr.drew.heap.size->∃ es c,wr.drew.heap[k]?=some (Obj.map es c)):=fun k e=>by
      subst e;obtain⟨es,c,h,_⟩:=q7.is;exact⟨d2.o.2,fun _=>⟨es,c,h⟩⟩
     have p6:m4<W.heap.size:=d0.o;have b1:=a5.o;have b2:=q1.drew.lt;have t3:=p2.blk q1.drew (fun e=>by have e:l=m4:=e;omega);have g3:=q3.drew.keep p2 p7;have b3:=(q4.below zB.drew).keep p2 (fun e=>d2.o.1 e.symm);have S:∀ {k},J.ownBlock=some k->l+1<=k/\k<wr.heap.size:=fun h=>q5.own h;have r3:eM (fun k=>(R k/\k<W.heap.size)\/l+1<=k) V (l+1) J ((fJ f o).take j):=(q5.kept G (fun _ _ _ h=>h) fun _ _ h=>h).kept' p2 (fun k e=>by subst e;obtain⟨es,c,h,_⟩:=q7.is;exact⟨es,c,h⟩);have s3:=p2.blk q6.drew (fun e=>by have e:W.heap.size=m4:=e;omega);have q0:bF (fun k=>((fun k=>(R k/\k<W.heap.size)\/l+1<=k) k)/\some k≠J.ownBlock) V tj P:=p1.mono fun k n _=>n.elim id fun n=>by
      have n:wr.heap.size<=k:=n;exact⟨.inr (by have b2:l<wr.heap.size:=b2;omega),fun e=>by have:=(S e.symm).2;omega⟩
     have i3:=p2.size;have i3:wr.heap.size<=V.heap.size:=i3;have b2:l<wr.heap.size:=b2;obtain⟨b5,O,e7,r4,k4,nx⟩:=r3.push q0 l6 (by omega) 25;have l3:∀ k,k<=l->some k≠J.ownBlock:=fun k n e=>by have:=(S e.symm).1;omega
     have t4:=k4.blk t3 (l3 l zA);have k5:ag (fun k=>k=l) O (O.setCell ⟨l,6,none⟩ b5):=ag.setCell O ⟨l,6,none⟩ b5;have f7:=k4.trans2 k5;have c3:=t3.cell 6;have c4:=t4.cell 6;simp only[L3]at c3 c4;have o8:Below W.heap.size V (O.setCell ⟨l,6,none⟩ b5):=f7.below (Nat.le_of_lt (zD (Nat.lt_trans b1 b2) i3)) fun k n=>by
      rcases n with n|n
      ·have:=(S n.symm).1;omega
      ·have n:k=l:=n;omega
     have a9:ag (fun k=>k=m4) W (O.setCell ⟨l,6,none⟩ b5):=dS (q2.trans ((G.trans2 p2).mono fun k h=>h.elim False.elim id)) o8;have l2:∀ k,k<=l->¬(some k=J.ownBlock\/k=l)\/k=l:=fun k n=>by
      by_cases e:k=l
      ·exact .inr e
      ·exact .inl fun h=>h.elim (l3 k n) e
     obtain⟨D,E,e9⟩:=r4.form;have m7:=r4.kept k5 (fun k n _ e=>by
      have e:k=l:=e;rcases n with ⟨_,n⟩|n<;>omega) (fun k n e=>by have e:k=l:=e;have:=(r4.own n).1;omega)
     rw[<-p9]at m7;refine⟨c3,(World.cell?_alloc_some _ _ _ (by rw[c3];rfl)).trans c3,D,_,E,O,by rw[<-e9];exact e7,c4,t4.frozen 6,?_⟩;rw[<-e9];refine⟨t4.set_ 6 b5,a9,HG.o.keep a9 g5.o,HB.o.keep a9 (fun e=>d2.o.1 e.symm),m7,f7.blk s3 (fun n=>?_),j0,d7,p3.kept f7 (fun n=>?_),p4.map fun h=>h.over f7 (fun k n p5 he=>?_) fun k n p5=>?_⟩
     ·rcases l2 W.heap.size (by omega) with h|h
      ·exact h n
      ·omega
     ·rcases l2 m4 (by omega) with h|h
      ·exact h n
      ·omega
     ·rcases n with ⟨n,p0⟩|n
      ·rcases he with he|he
       ·exact p0 he
       ·have he:k=l:=he;rcases n with ⟨_,n⟩|n<;>omega
      ·have n:wr.heap.size<=k:=n;rcases he with he|he
       ·have:=(S he.symm).2;omega
       ·have he:k=l:=he;omega
     ·have l5:((R k/\k<W.heap.size)\/l+1<=k)/\some k≠J.ownBlock:=by
       rcases n with n|n
       ·exact n
       ·have n:wr.heap.size<=k:=n;exact⟨.inr (by omega),fun e=>by have:=(S e.symm).2;omega⟩
      refine⟨l5.1,?_⟩;rcases nx with e|⟨k',e,v1⟩
      ·rw[e];exact l5.2
      ·rw[e];intro e2;simp at e2;omega
    clear f5 k6 a2 e1 l4 b4 l6;go_wp2_with fail
    go_region_law (first
     |(go_simp;go_at_call 71;(with_reducible refine n6.o.mono ?_);rintro e V ⟨P,rfl,HZ⟩;obtain⟨k8,v8,g0,f8,A8,n8,c8,B8,m8,d8,X8,l8,e8,h8⟩:=HZ.o.1.form;subst h8;obtain⟨c3,c4,D,F,E,O,e7,c5,c6,o7⟩:=o5.o V _ HZ;have n2:=zH e7;clear e7)
     |(refine Eq.mpr (if_pos (by first|rfl|kernel_rfl)) ?_;refine dH (.tmp 44) (.tmp 48) 25 25 rfl rfl rfl n2.o ?_))
    all_goals
     go_wp2_with fail
     go_roundg (gk-1)
     case measure=>omega
     case rel=>exact⟨j+1,_,by omega,(by have t7:=j2.o;rw[show wrap64 ((j:Int)+1)=((j+1:Nat):Int) by unfold wrap64;omega]),o7.o⟩
   ·obtain rfl:j=L:=by omega
    obtain⟨q1,q2,q3,q4,q5,q6,j0,d7,q7,q8⟩:=HJ.o;obtain⟨D,E,e9⟩:=q5.form;have I:=q3.tc k (by rw[q3.len];exact A.o);have i4:=d4.o;rw[zO (by rw[q3.len];exact A.o)]at i4;rw[zI i4,Tm.rootT,o4.o]at I;obtain rfl:ng=m.neg:=by cases I;rfl
    have l7:bF (fun k=>(R k/\k<W.heap.size)\/l+1<=k) wr (.mk Y Z s m []) [.int .i64 Y,.int .i64 Z,.string s,.bool m.neg,.slice A1 a1 c1,.slice C1 M f1,.slice none 0 0]:=((bF.of_tc I).onto q3.be).mono fun b hb _=>.inl ⟨HR.o b hb,zD hb g8.o⟩;have T:=q5.done (Q:=fun k=>(R k/\k<W.heap.size)\/l+1<=k) (fun _ h=>h) (fun g hg=>.inr (q5.own hg).1) l7;have n0:(Tm.mk Y Z s m o).sb f=.mk Y Z s m ((fJ f o).take j):=by
     by_cases b4:Y=1
     ·have h:=aK b8.o b4;have h2:=HF.o.1 Z (n7.o Z h);have h3:=h;rw[Tm.var]at h3
      injection h3 with _ _ _ _ h3
      rw[h3]at h ⊢;rw[h,bZ,h2,<-h,bE,List.take_nil]
     ·rw[bX f b4,zG (by rw[dZ,<-l0,j7.o];exact zN _)]
    rw[<-n0,e9]at T;have j5:=zH T;rw[e9]at q1;generalize ((fJ f o).take j).length=F at*;have G:ag (fun _=>False) wr wr.drew:=.of_below zB.drew;have j1:aE bw wr.drew m4 j0 d7:=q7.kept G fun h=>h;obtain⟨z2,v5,k1,a7⟩:=co (w:=wr.drew) (bW _) (et:=27) (mt:=72) (by kernel_rfl) (k:=.int .i64 (k:Int)) ⟨_,rfl⟩ (.agg #[.int .i64 Y,.int .i64 Z,.string s,.bool m.neg,.slice A1 a1 c1,.slice C1 M f1,.slice D F E]) j1;have e6:∃ n',aE bw z2 m4 n' (gL d7 (.int .i64 (k:Int)) (.agg #[.int .i64 Y,.int .i64 Z,.string s,.bool m.neg,.slice A1 a1 c1,.slice C1 M f1,.slice D F E])):=⟨_,k1⟩;obtain⟨n4,e6⟩:=e6;have p6:m4<W.heap.size:=d0.o;have b1:=a5.o;have t2:=a7.blk q1.drew (fun e=>by have e:l=m4:=e;omega);have s2:=a7.blk q6.drew (fun e=>by have e:W.heap.size=m4:=e;omega);have g2:=(HG.o.keep (q2.trans (G.mono fun _ h=>h.elim)) g5.o);have g3:=(HG.o.keep ((q2.trans (G.mono fun _ h=>h.elim)).trans a7) g5.o);have d5:=g2.dk.cell 5;have d6:=g3.dk.cell 5;simp only[L3]at d5 d6;have v4:=zW d5 q1.drew.r7;have p8:=zW d6 t2.r7;have r8:=zH t2;have d3:=zH s2;have j6:=zH a7;have o0:=zH e6;have o1:=zH q2;have o2:=zH j1;have o3:=zH q8;clear q1 q2 q3 q4 q5 q6 q7 q8 j1 k1 e6 t2 s2 a7 g2 g3 d5 d6 I l7 T n0 i4 G HJ;go_wp2_with fail
    go_region_held3 (fun w'=>w'.cell? ⟨d,5,none⟩=some (.map (some m4))/\R7 w' l (.int .i64 Y) (.int .i64 Z) (.string s) (.bool m.neg) (.slice A1 a1 c1) (.slice C1 M f1) (.slice D F E))
     (first|assumption|(go_keep;done))
     (fail)
    obtain⟨r0,r1,r2,r3,r4,r5,r6⟩:=d3.o.r7;obtain⟨z0,z1,v6,z3,z4,z5,z6⟩:=d3.o.f7;obtain⟨-,t0,t1,t2,t3,t4,t5,t6⟩:=p8;go_wp2_with fail;refine bodyPost_ret (v:=.agg #[.int .i64 Y,.int .i64 Z,.string s,.bool m.neg,.slice A1 a1 c1,.slice C1 M f1,.slice D F E]) (by rw[aH rfl];go_simp) rfl ?_;generalize hz:World.setCell _ _ _=z;obtain⟨-,a8⟩:=uk hz d3.o;have G:ag (fun _=>False) wr wr.drew:=.of_below zB.drew;have h7:Below W.heap.size z2 z:=a8.below (Nat.le_of_lt d3.o.lt) fun k e=>Nat.le_of_eq e.symm;have a9:ag (fun k=>k=m4) W z:=dS ((o1.o.trans (G.mono fun _ h=>h.elim)).trans j6.o) h7;have a3:∀ {t cs},bF (fun k=>(R k/\k<W.heap.size)\/l+1<=k) wr t cs->bF (fun k=>R k\/W.heap.size<=k) z t cs:=fun h=>(bF.overMap (h.to (w':=wr.drew) zA fun _ _ _=>rfl) o2.o j6.o).over a8 (fun k n _ e=>by have e:k=W.heap.size:=e;have:=a5.o;rcases n with ⟨_,h⟩|h<;>omega) fun k n _=>n.elim (fun h=>.inl h.1) fun h=>.inr (by have:=a5.o;omega);refine⟨[.int .i64 Y,.int .i64 Z,.string s,.bool m.neg,.slice A1 a1 c1,.slice C1 M f1,.slice D F E],rfl,by rw[g7.o];exact a3 j5.o,a9,n4,_,o0.o.kept a8 (fun e=>by have e:m4=W.heap.size:=e;have:=d0.o;omega),fun i' y hy=>?_⟩;unfold gL;by_cases e:i'=k
    ·subst e;rw[d4.o]at hy;cases hy;exact .inr ⟨[.int .i64 Y,.int .i64 Z,.string s,.bool m.neg,.slice A1 a1 c1,.slice C1 M f1,.slice D F E],by rw[if_pos rfl],a3 j5.o⟩
    ·rw[if_neg (fun q=>e (by simp at q;omega))];rcases o3.o i' y hy with h|⟨P,h1,h2⟩
     ·exact .inl h
     ·exact .inr ⟨P,h1,a3 (h2.mono fun b hb _=>hb.1)⟩
 ·obtain⟨k8,v8,g0,f8,A8,n8,c8,B8,m8,d8,X8,l8,e8,h8⟩:=ht.form;subst h8;rw[hs]at b0;simp only[Option.getD_some,Option.isSome_some]at b0;have HT:=zH ht;clear hs ht;have f2:=ae w1 (.cells #[.int .i64 k8,.int .i64 v8,.string g0,.bool f8,.slice A8 n8 c8,.slice B8 m8 d8,.slice X8 l8 e8] 27);obtain⟨r0,r1,r2,r3,r4,r5,r6⟩:=(a6.o.to f2).r7;obtain⟨z0,z1,z2,z3,z4,z5,z6⟩:=(a6.o.to f2).f7;have j3:=zH f2;clear f2;go_wp2_with fail;refine bodyPost_ret (v:=.agg #[.int .i64 k8,.int .i64 v8,.string g0,.bool f8,.slice A8 n8 c8,.slice B8 m8 d8,.slice X8 l8 e8]) (by rw[aH rfl];go_simp) rfl ?_;generalize hz:World.setCell _ _ _=z;obtain⟨-,a8⟩:=uk hz (a6.o.to j3.o);have i0:ag (fun k=>k=W.heap.size) w1 z:=(ag.of_below j3.o).trans a8;have h7:zZ W z:=b6.o.trans (i0.below b6.o.size fun k e=>Nat.le_of_eq e.symm);have a3:∀ {t cs},bF (fun k=>R k/\k<W.heap.size) w1 t cs->bF (fun k=>R k\/W.heap.size<=k) z t cs:=fun h=>h.over i0 (fun k h1 _ e=>by have e:k=W.heap.size:=e;omega) fun k h1 _=>.inl h1.1;exact⟨[.int .i64 k8,.int .i64 v8,.string g0,.bool f8,.slice A8 n8 c8,.slice B8 m8 d8,.slice X8 l8 e8],rfl,by rw[g7.o];exact a3 HT.o,.of_below h7,ns,gs,g4.o.kept i0 (fun e=>by have e:m4=W.heap.size:=e;have:=d0.o;omega),g6.o.map a3⟩
end
def Bj:Nat->Nat
 |0=>1
 |n+1=>1+24*Bj n
theorem tu (t:Tm) (n:Nat):am (List.replicate n t)=n*t.count:=by
 induction n with
 |zero=>simp[am]
 |succ n a=>rw[List.replicate_succ,am,a,Nat.succ_mul];omega
def Dh (B:Nat) (g:Nat) (j:Nat) (w:World):Prop:=∃ (t:Tm) (k v:Int) (s:ByteArray) (ng:Bool) (A:Option Addr) (n c:Nat) (C:Option Addr) (m d:Nat) (X:Option Addr) (l e:Nat),ah w g 27 #[.int .i64 k,.int .i64 v,.string s,.bool ng,.slice A n c,.slice C m d,.slice X l e]/\bF (fun b=>B<=b) w t [.int .i64 k,.int .i64 v,.string s,.bool ng,.slice A n c,.slice C m d,.slice X l e]/\t.count=Bj j
theorem Dh.below {B g j:Nat} {w w':World} (h:Dh B g j w) (a:zZ w w'):Dh B g j w':=by
 obtain⟨t,k,v,s,o,A,n,c,C,m,d,X,l,e,b,f,i⟩:=h;exact⟨t,k,v,s,o,A,n,c,C,m,d,X,l,e,b.to a,f.onto a,i⟩
theorem ve (p:Nat->Prop) (w:World) (k:Int) (a:aG k):bF p w (.mk k 0 ⟨#[108,97,114,103,101]⟩ ⟨false,[],[]⟩ []) [.int .i64 k,.int .i64 0,.string ⟨#[108,97,114,103,101]⟩,.bool false,.slice none 0 0,.slice none 0 0,.slice none 0 0]:=
 .mk k 0 ⟨#[108,97,114,103,101]⟩ ⟨false,[],[]⟩ [] (.slice none 0 0) (.slice none 0 0) none 0 (fun _=>[]) a ⟨by decide,by decide⟩ (by decide) (.nil_ p w) (.nil_ p w) ⟨Ok.nil,Ok.nil⟩ zA (by decide) (fun h=>absurd h (by simp)) fun i h=>absurd h (by simp)
theorem wJ (W:World):Calls prog 69 #[] W fun e z=>∃ cx:List Value,e=.returned (.agg cx.toArray)/\Yd (∃ t,TC z t cx/\10000<t.count/\zZ W z):=by
 go_enter func69,ntmps69
 go_upto_region 2 with fail
 generalize hy:World.alloc _ _=w2;obtain⟨V,a0,a8⟩:=Dj hy;obtain⟨y0,y1,y2,y3,y4,y5,y6⟩:=a8.r7
 go_upto_region 3 with fail
 generalize b1:World.alloc _ _=w3;obtain⟨Y,a9⟩:=qo b1;have f:=a0.lt;have a4:Yd (Dh (w2.heap.size+1) w2.heap.size 0 w3/\ah w3 W.heap.size 27 (zX 0 0 ⟨#[]⟩ false none 0 0 none 0 0 none 0 0).toArray/\zZ W w3):=by
  refine⟨⟨_,3,0,⟨#[108,97,114,103,101]⟩,false,none,0,0,none,0,0,none,0,0,a9,ve _ _ 3 ⟨by decide,by decide⟩,?_⟩,a0.to Y,V.trans (Y.mono V.size)⟩;rw[Tm.count,am,Bj]
 generalize w2.heap.size=o at*;have F:=zH f;clear hy b1 V Y a0 a8 a9 y0 y1 y2 y3 y4 y5 y6 f;go_wp2_with fail
 go_loopg [6] 3 (fun gk s6 wr=>∃ i:Nat,gk+i=3/\s6=.int .i64 (i:Int)/\Yd (Dh (o+1) o i wr/\ah wr W.heap.size 27 (zX 0 0 ⟨#[]⟩ false none 0 0 none 0 0 none 0 0).toArray/\zZ W wr))
 case atStart=>exact⟨0,by omega,rfl,a4.o⟩
 case round=>
  clear a4;obtain⟨i,c2,rfl,S⟩:=hrel;obtain⟨t,k,v,s,M,A,n,c,C,m,d,X,l,e,g1,g2,g3⟩:=S.o.1;by_cases hi:i<3
  ·have c1:((i:Nat):Int)<3:=by omega
   go_upto_region 6 with fail
   generalize hy:World.alloc _ _=w5;obtain⟨B,b0⟩:=qo hy;have L:Yd (∀ a,wr.heap.size=a->o<a/\Yd (ah (w5) a 27 #[.int .i64 5,.int .i64 0,.string ⟨#[108,97,114,103,101]⟩,.bool false,.slice none 0 0,.slice none 0 0,((.slice none 0 0))]/\eM (fun k=>o+1<=k/\k<a) (w5) (a+1) ((.slice none 0 0)) (List.replicate (0) t)/\ah (w5) o 27 (zX k v s M A n c C m d X l e).toArray/\ah (w5) W.heap.size 27 (zX 0 0 ⟨#[]⟩ false none 0 0 none 0 0 none 0 0).toArray/\zZ W (w5)/\bF (fun k=>o+1<=k/\k<a) (w5) t (zX k v s M A n c C m d X l e))):=fun a e=>by
    subst e;exact⟨g1.lt,b0,.nil _ _ _,g1.to B,S.o.2.1.to B,S.o.2.2.trans (B.mono S.o.2.2.size),(g2.mono fun b U f=>⟨U,f⟩).onto B⟩
   obtain⟨a,a1⟩:∃ a,wr.heap.size=a:=⟨_,rfl⟩;have P:=zH (L.o a a1);have b4:=zH g3;rw[a1];clear hy B b0 L a1 g1 g2 g3;obtain⟨y,a7⟩:∃ y,y=gk:=⟨_,rfl⟩;have a2:Yd (y=gk/\y+i=3):=⟨a7,by omega⟩;clear a7;go_wp2_with fail
   go_loopg [9] 24 (fun gk s9 wr=>∃ (j:Nat) (O:Option Addr) (oc:Nat),gk+j=24/\s9=.int .i64 (j:Int)/\Yd (ah (wr) a 27 #[.int .i64 5,.int .i64 0,.string ⟨#[108,97,114,103,101]⟩,.bool false,.slice none 0 0,.slice none 0 0,((.slice O j oc))]/\eM (fun k=>o+1<=k/\k<a) (wr) (a+1) ((.slice O j oc)) (List.replicate (j) t)/\ah (wr) o 27 (zX k v s M A n c C m d X l e).toArray/\ah (wr) W.heap.size 27 (zX 0 0 ⟨#[]⟩ false none 0 0 none 0 0 none 0 0).toArray/\zZ W (wr)/\bF (fun k=>o+1<=k/\k<a) (wr) t (zX k v s M A n c C m d X l e)))
   case atStart=>exact⟨0,none,0,by omega,rfl,P.o.2⟩
   case round=>
    obtain⟨j,O,oc,c3,rfl,HQ⟩:=hrel;by_cases hj:j<24
    ·have c4:((j:Nat):Int)<24:=by omega
     obtain⟨p1,p2,N,p4,p5,p6⟩:=HQ.o;have I:=P.o.1;have f:=F.o;have q:∀ {k},(Value.slice O j oc).ownBlock=some k->a+1<=k/\k<wr.heap.size:=fun h=>p2.own h;obtain⟨c5,J,a5,r4,k4,nx⟩:=p2.push (p6.mono fun b U _=>⟨U,fun e=>by have:=(q e.symm).1;omega⟩) (by rw[List.length_replicate];omega) p1.lt 25;rw[<-List.replicate_succ']at r4;obtain⟨D,E,e9⟩:=r4.form;rw[List.length_replicate]at e9;subst e9;have Z:∀ k,k<=a->¬some k=(Value.slice O j oc).ownBlock:=fun k w e=>by have:=(q e.symm).1;omega
     have q1:=k4.blk p1 (Z a zA);have k5:ag (fun k=>k=a) J (J.setCell ⟨a,6,none⟩ (.slice D (j+1) E)):=ag.setCell J ⟨a,6,none⟩ _;have r:=k4.trans2 k5;have G:∀ k,k<a->¬(some k=(Value.slice O j oc).ownBlock\/k=a):=fun k w h=>h.elim (Z k (Nat.le_of_lt w)) (by omega);have x:Yd (Yd (ah ((J.setCell ⟨a,6,none⟩ (.slice D (j+1) E))) a 27 #[.int .i64 5,.int .i64 0,.string ⟨#[108,97,114,103,101]⟩,.bool false,.slice none 0 0,.slice none 0 0,((.slice D (j+1) E))]/\eM (fun k=>o+1<=k/\k<a) ((J.setCell ⟨a,6,none⟩ (.slice D (j+1) E))) (a+1) ((.slice D (j+1) E)) (List.replicate ((j+1)) t)/\ah ((J.setCell ⟨a,6,none⟩ (.slice D (j+1) E))) o 27 (zX k v s M A n c C m d X l e).toArray/\ah ((J.setCell ⟨a,6,none⟩ (.slice D (j+1) E))) W.heap.size 27 (zX 0 0 ⟨#[]⟩ false none 0 0 none 0 0 none 0 0).toArray/\zZ W ((J.setCell ⟨a,6,none⟩ (.slice D (j+1) E)))/\bF (fun k=>o+1<=k/\k<a) ((J.setCell ⟨a,6,none⟩ (.slice D (j+1) E))) t (zX k v s M A n c C m d X l e))):=by
      refine⟨q1.set_ 6 _,r4.kept k5 (fun k w _ e=>by have e:k=a:=e;omega) (fun k w e=>by have e:k=a:=e;have:=(r4.own w).1;omega),r.blk N (G o I),r.blk p4 (G _ (by omega)),p5.trans (r.below (by have:=p4.lt;omega) fun k w=>?_),p6.to r.size fun b U f=>r.block b f (G b U.2)⟩;rcases w with w|w
      ·have:=(q w.symm).1;omega
      ·have w:k=a:=w;omega
     have b3:=zH a5;obtain⟨u0,u1,u2,u3,u4,u5,u6⟩:=p1.r7;obtain⟨t0,t1,t2,t3,t4,t5,t6⟩:=N.r7;have c6:=q1.cell 6;have f6:=q1.frozen 6;simp only[L3]at c6;clear p1 p2 N p4 p5 p6 a5 r4 k4 nx q1 k5 r Z G q I f u0 u1 u2 u3 u4 u5
     go_wp2_with (at_builtin;go_must (refine cK rfl _ _ _ _ rfl rfl rfl b3.o ?_))
     go_roundg (gk-1)
     case measure=>omega
     case rel=>exact⟨j+1,D,E,by omega,by go_num,x.o⟩
    ·obtain rfl:j=24:=by omega
     obtain⟨p1,p2,N,p4,p5,p6⟩:=HQ.o;have I:=P.o.1;have f:=F.o;have a6:=p2.done (Q:=fun k=>o+1<=k) (fun _ h=>h.1) (fun g hg=>by have:=(p2.own hg).1;omega) (ve (fun k=>o+1<=k) wr 5 ⟨by decide,by decide⟩);have b5:=zH a6;have b8:=zH N;have c0:=zH p4;have a3:=zH p5;obtain⟨u0,u1,u2,u3,u4,u5,u6⟩:=p1.r7;obtain⟨t0,t1,t2,t3,t4,t5,t6⟩:=N.r7;obtain⟨f0,f1,f2,f3,f4,f5,f6⟩:=N.f7;clear p1 p2 N p4 p5 p6 a6 I f
     go_upto_region 11 with fail
     generalize hz:World.setCell _ _ _=z;obtain⟨b2,p⟩:=uk hz b8.o;have x:Yd (Dh (o+1) o (i+1) z/\ah z W.heap.size 27 (zX 0 0 ⟨#[]⟩ false none 0 0 none 0 0 none 0 0).toArray/\zZ W z):=by
      have f:=F.o;refine⟨⟨_,5,0,⟨#[108,97,114,103,101]⟩,false,none,0,0,none,0,0,O,24,oc,b2,b5.o.to p.size fun b U f=>p.block b f (fun e=>by have e:b=o:=e;omega),?_⟩,p.blk c0.o (fun e=>by have e:W.heap.size=o:=e;omega),a3.o.trans (p.below a3.o.size fun k e=>by have e:k=o:=e;omega)⟩;rw[Tm.count,tu,b4.o,Bj]
     clear hz b2 p u0 u1 u2 u3 u4 u5 u6 t0 t1 t2 t3 t4 t5 t6 f0 f1 f2 f3 f4 f5 f6;go_wp2_with fail
     go_roundg (y-1)
     case measure=>have:=a2.o;omega
     case rel=>exact⟨i+1,by have:=a2.o;omega,by go_num,x.o⟩
  ·obtain rfl:i=3:=by omega
   have c1:¬((3:Nat):Int)<3:=by omega
   have T:=zH S.o.2.1;obtain⟨t0,t1,t2,t3,t4,t5,t6⟩:=g1.r7;obtain⟨r0,r1,r2,r3,r4,r5,r6⟩:=T.o.r7;obtain⟨z0,z1,z2,z3,z4,z5,z6⟩:=T.o.f7;have b6:=zH g2;have b7:=zH g3;clear g1 g2 g3;go_wp2_with fail;refine bodyPost_ret (v:=.agg #[.int .i64 k,.int .i64 v,.string s,.bool M,.slice A n c,.slice C m d,.slice X l e]) (by rw[aH rfl];go_simp) rfl ?_;generalize hz:World.setCell _ _ _=z;obtain⟨-,p⟩:=uk hz T.o;have f:=F.o;exact⟨[.int .i64 k,.int .i64 v,.string s,.bool M,.slice A n c,.slice C m d,.slice X l e],rfl,t,(b6.o.to p.size fun b U f=>p.block b f (fun e=>by have e:b=W.heap.size:=e;omega)).tc,by rw[b7.o];decide,S.o.2.2.trans (p.below S.o.2.2.size fun k e=>Nat.le_of_eq e.symm)⟩
end Go.Proofs.YtlhojoefhannnaaGreat

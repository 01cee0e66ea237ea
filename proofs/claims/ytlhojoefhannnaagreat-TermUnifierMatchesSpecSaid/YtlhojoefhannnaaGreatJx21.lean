/- (*heap.Heap).Size in general: its closure at a compound. And 8 more texts. -/
import Derived.Shelf.SortM.Plain
import Derived.Shelf.SortM.SortNone
import Derived.Shelf.SlicesG.CompactI
import Derived.Ground.SlgmProg
import Derived.Ground.SlgnProg
import Derived.RangeFuncBox
import Derived.RangeFuncLeaves
import Derived.Shelf.Abstract
import Derived.OwnWalkIn
import Derived.TacticsInMore
import Derived.LoopNIn
import Derived.LoopIn
import Derived.Test.YtlhojoefhannnaaGreatJx20
set_option linter.unusedVariables false
set_option linter.unusedSimpArgs false
set_option maxRecDepth 100000
set_option maxHeartbeats 51200000
namespace Go.Proofs.YtlhojoefhannnaaGreat
open Go.Proofs.Tryz Go.RowKit NumB
theorem yM (N:Nat) (t:Tm):(0:Int)<cz N t:=by
 have:=jL t;unfold cz;omega
theorem Dp (N:Nat) (t:Tm):cz N t<=(N:Int)+1:=by unfold cz;omega
def cj (N:Nat) (sg:Int->Tm) (l:List Tm) (j:Nat):Int:=((min (1+am (fJ sg (l.take j))) (N+1):Nat):Int)
theorem Bh (N:Nat) (sg:Int->Tm) (l:List Tm):cj N sg l 0=1:=by
 unfold cj;rw[List.take_zero,bE,am];omega
theorem Dn (N:Nat) (sg:Int->Tm) (l:List Tm) (j:Nat):0<=cj N sg l j/\cj N sg l j<=(N:Int)+1:=by unfold cj;omega
theorem jy (sg:Int->Tm):∀ (l:List Tm) (j:Nat),fJ sg (l.take j)=(fJ sg l).take j:=by
 intro l
 induction l with
 |nil=>intro j;rw[List.take_nil,bE,List.take_nil]
 |cons t l a=>
  intro j;cases j with
  |zero=>rw[List.take_zero,List.take_zero,bE]
  |succ j=>rw[List.take_succ_cons,bA,bA,List.take_succ_cons,a]
theorem Bg (N:Nat) (sg:Int->Tm) (l:List Tm) {j:Nat} (e:j<l.length):cj N sg l (j+1)=min (cj N sg l j+cz N ((l[j]).sb sg)) ((N:Int)+1):=by
 have a:j<(fJ sg l).length:=by rw[dZ];exact e
 have d:=bq (fJ sg l) a;rw[kU sg e a]at d;unfold cj cz;rw[jy,jy,d];omega
theorem CN (N:Nat) (sg:Int->Tm) {k v:Int} {s:ByteArray} {n:LN} {args:List Tm} (a:k≠1):cj N sg args args.length=cz N ((Tm.mk k v s n args).sb sg):=by
 unfold cj cz;rw[List.take_length,bX sg a,Tm.count]
theorem ZN.drew {f:Nat->Option Tm} {sg:Int->Tm} {N nm Bq h G c m:Nat} {tr:Value} {xs ys:List Value} {b1 b2 b3 b4 b5 ms mn:Nat} {w W:World} (g:ZN f sg N nm Bq h G c m tr xs ys b1 b2 b3 b4 b5 ms mn w W):ZN f sg N nm Bq h G c m tr xs ys b1 b2 b3 b4 b5 ms mn w W.drew:=g.below zB.drew
section
variable {P:Nat->Prop} {f:Nat->Option Tm} {sg:Int->Tm} {N nm Bq h G c m:Nat} {tr:Value} {xs ys:List Value} {b1 b2 b3 b4 b5 ms mn:Nat} {w:World}
theorem yu {t:Tm} {o:Nat} {D:Array Value} (A:Int) (ts:ByteArray) (x:Bool) (tA:Option Addr) (n p:Nat) (tB:Option Addr) (q v:Nat) (j k z:Nat) (C:0<k) {y:World} (g:ZN f sg N nm Bq h G c m tr xs ys b1 b2 b3 b4 b5 ms mn w y) (J:ah y o 27 #[.int .i64 5,.int .i64 A,.string ts,.bool x,.slice tA n p,.slice tB q v,.slice (some ⟨j,0,none⟩) k z]) (E:ah w j 27 D) (F:f j=some t):
 Calls prog 63 #[.agg #[.int .i64 5,.int .i64 A,.string ts,.bool x,.slice tA n p,.slice tB q v,.slice (some ⟨j,0,none⟩) k z]] y fun e d=>∃ (i:Int),e=.returned (.pointer (some ⟨j,0,none⟩))/\(Instr.lookup 108 (.map (some mn)) (.pointer (some ⟨j,0,none⟩)) false).run prog d=.ok (.int .i64 i) d/\Yd (i=0\/i=cz N (t.sb sg))/\Yd (ZN f sg N nm Bq h G c m tr xs ys b1 b2 b3 b4 b5 ms mn w d)/\Yd (ah d o 27 (zX 5 A ts x tA n p tB q v (some ⟨j,0,none⟩) k z).toArray)/\Yd (zZ y d)/\(d.cell? ⟨b4,0,none⟩=some (.map (some mn))/\d.cell? ⟨o,0,none⟩=some (.int .i64 5)/\d.cell? ⟨o,1,none⟩=some (.int .i64 A)/\d.cell? ⟨o,2,none⟩=some (.string ts)/\d.cell? ⟨o,3,none⟩=some (.bool x)/\d.cell? ⟨o,4,none⟩=some (.slice tA n p)/\d.cell? ⟨o,5,none⟩=some (.slice tB q v)/\d.cell? ⟨o,6,none⟩=some (.slice (some ⟨j,0,none⟩) k z)):=by
 refine (fD 5 A ts x tA n p tB q v j 0 k z C y).mono ?_;rintro e d ⟨rfl,B⟩;have l:=g.below B;have a:=J.to B;obtain⟨r,I,C⟩:=l.look2 E F;rcases I with rfl|rfl
 ·exact⟨0,rfl,C,.inl rfl,l,a,B,l.c4,a.cell 0,a.cell 1,a.cell 2,a.cell 3,a.cell 4,a.cell 5,a.cell 6⟩
 ·exact⟨_,rfl,C,.inr rfl,l,a,B,l.c4,a.cell 0,a.cell 1,a.cell 2,a.cell 3,a.cell 4,a.cell 5,a.cell 6⟩
theorem Bb {t:Tm} {o:Nat} {A:Array Value} (x:Int) (ts:ByteArray) (r:Bool) (tA:Option Addr) (l n:Nat) (tB:Option Addr) (p q:Nat) (i k v:Nat) (J:0<k) {y:World} (g:ZN f sg N nm Bq h G c m tr xs ys b1 b2 b3 b4 b5 ms mn w y) (O:ah y o 27 #[.int .i64 5,.int .i64 x,.string ts,.bool r,.slice tA l n,.slice tB p q,.slice (some ⟨i,0,none⟩) k v]) (F:ah w i 27 A) (I:f i=some t):
 Calls prog 63 #[.agg #[.int .i64 5,.int .i64 x,.string ts,.bool r,.slice tA l n,.slice tB p q,.slice (some ⟨i,0,none⟩) k v]] y fun e d=>∃ (z:World),e=.returned (.pointer (some ⟨i,0,none⟩))/\(Instr.mapUpdate 108 (.map (some mn)) (.pointer (some ⟨i,0,none⟩)) (.int .i64 (cz N (t.sb sg)))).run prog d=.ok () z/\Yd (ZN f sg N nm Bq h G c m tr xs ys b1 b2 b3 b4 b5 ms mn w z/\ag (ZQ ms mn) y z)/\(d.cell? ⟨b4,0,none⟩=some (.map (some mn))/\d.cell? ⟨o,0,none⟩=some (.int .i64 5)/\d.cell? ⟨o,1,none⟩=some (.int .i64 x)/\d.cell? ⟨o,2,none⟩=some (.string ts)/\d.cell? ⟨o,3,none⟩=some (.bool r)/\d.cell? ⟨o,4,none⟩=some (.slice tA l n)/\d.cell? ⟨o,5,none⟩=some (.slice tB p q)/\d.cell? ⟨o,6,none⟩=some (.slice (some ⟨i,0,none⟩) k v))/\(z.cell? ⟨b4,0,none⟩=some (.map (some mn))/\z.cell? ⟨o,0,none⟩=some (.int .i64 5)/\z.cell? ⟨o,1,none⟩=some (.int .i64 x)/\z.cell? ⟨o,2,none⟩=some (.string ts)/\z.cell? ⟨o,3,none⟩=some (.bool r)/\z.cell? ⟨o,4,none⟩=some (.slice tA l n)/\z.cell? ⟨o,5,none⟩=some (.slice tB p q)/\z.cell? ⟨o,6,none⟩=some (.slice (some ⟨i,0,none⟩) k v)):=by
 refine (fD 5 x ts r tA l n tB p q i 0 k v J y).mono ?_;rintro e d ⟨rfl,C⟩;have B:=g.below C;have a:=O.to C;obtain⟨z,M,E,D⟩:=B.put2 F I;have j:=B.blk D a;exact⟨z,rfl,M,⟨E,(ag.of_below C).trans D⟩,⟨B.c4,a.cell 0,a.cell 1,a.cell 2,a.cell 3,a.cell 4,a.cell 5,a.cell 6⟩,E.c4,j.cell 0,j.cell 1,j.cell 2,j.cell 3,j.cell 4,j.cell 5,j.cell 6⟩
theorem uA {x:Tm} (hN:1<=N) (h0:N<=1000000) (p:Int) (ts:ByteArray) (J:Bool) (tA:Option Addr) (D E:Nat) (tB:Option Addr) (F I:Nat) (tX:Option Addr) (z M:Nat) (hx:cU P f w x [.int .i64 5,.int .i64 p,.string ts,.bool J,.slice tA D E,.slice tB F I,.slice tX z M]) (fx:x.fine)
 (hc:∀ i (hi:i<x.args.length) (cs:List Value),cU P f w x.args[i] cs->∀ W,ZN f sg N nm Bq h G c m tr xs ys b1 b2 b3 b4 b5 ms mn w W->Calls prog 62 #[.agg cs.toArray,.pointer (some ⟨b1,0,none⟩),.pointer (some ⟨b2,0,none⟩),.pointer (some ⟨b3,0,none⟩),.pointer (some ⟨b4,0,none⟩),.pointer (some ⟨b5,0,none⟩)] W fun e l=>e=.returned (.int .i64 (cz N ((x.args[i]).sb sg)))/\ZN f sg N nm Bq h G c m tr xs ys b1 b2 b3 b4 b5 ms mn w l/\ag (ZQ ms mn) W l) (W:World) (g:ZN f sg N nm Bq h G c m tr xs ys b1 b2 b3 b4 b5 ms mn w W):
 Calls prog 62 #[.agg #[.int .i64 5,.int .i64 p,.string ts,.bool J,.slice tA D E,.slice tB F I,.slice tX z M],.pointer (some ⟨b1,0,none⟩),.pointer (some ⟨b2,0,none⟩),.pointer (some ⟨b3,0,none⟩),.pointer (some ⟨b4,0,none⟩),.pointer (some ⟨b5,0,none⟩)] W fun e l=>e=.returned (.int .i64 (cz N (x.sb sg)))/\ZN f sg N nm Bq h G c m tr xs ys b1 b2 b3 b4 b5 ms mn w l/\ag (ZQ ms mn) W l:=by
 obtain⟨k_,v_,s_,n_,args,A_,B_,Ar,cp,cx,g6,Q,e9,f1,d3,a7⟩:=hx.inv;simp only[List.cons.injEq,Value.int.injEq,Value.string.injEq,Value.slice.injEq,true_and,and_true]at Q;obtain⟨rfl,rfl,rfl,f7,f8,g0,rfl,rfl,g5⟩:=Q;subst g6;have d1:0<args.length/\args.length<=32:=by
  rw[Tm.fine]at fx;rcases al fx.2.1 with ⟨_,_,_,_,h⟩|⟨_,_,_,_,h|h|h|h⟩<;>omega
 obtain⟨C,g9,rfl,e8,c8,Z,y⟩:=d3 d1.1;have HC:Yd (∀ i (hi:i<args.length) (W:World),ZN f sg N nm Bq h G c m tr xs ys b1 b2 b3 b4 b5 ms mn w W->Calls prog 62 #[.agg (cx i).toArray,zY b1,zY b2,zY b3,zY b4,zY b5] W fun e l=>e=.returned (.int .i64 (cz N ((args[i]).sb sg)))/\ZN f sg N nm Bq h G c m tr xs ys b1 b2 b3 b4 b5 ms mn w l/\ag (ZQ ms mn) W l):=fun i hi W g=>hc i hi _ (a7 i hi) W g;have e7:=zH g;have b7:=zH c8;have V:=zH Z;have d5:=zH y;have d8:=zH a7;have d4:=zH (CN N sg (k:=5) (v:=p) (s:=ts) (n:=n_) (args:=args) (by decide));clear hx fx hc f7 f8 g0 e9 f1 d3 a7 e8 c8 Z y g g5;have a0:=zH (ah.new W 27 #[.int .i64 5,.int .i64 p,.string ts,.bool J,.slice tA D E,.slice tB F I,.slice (some ⟨C,0,none⟩) args.length M]);have c6:Yd (zZ W (W.alloc (.cells #[.int .i64 5,.int .i64 p,.string ts,.bool J,.slice tA D E,.slice tB F I,.slice (some ⟨C,0,none⟩) args.length M] 27))):=ae W _;obtain⟨a4,f3⟩:=d1;have t0:=a0.o.cell 0;simp only[L3]at t0;go_enter func62,ntmps62;go_wp2_with fail
 go_quiet (fail)
 generalize a8:World.drewN _ _=O;have HY:Yd (zZ W O):=by rw[<-a8];exact aN c6.o _
 have d:Yd (ah O W.heap.size 27 (zX 5 p ts J tA D E tB F I (some ⟨C,0,none⟩) args.length M).toArray):=by rw[<-a8];exact a0.o
 clear a8 a0 c6 t0;have Y:=zH (e7.o.below HY.o);have c4:=Y.o.c4;obtain⟨t0,t1,t2,t3,t4,t5,t6⟩:=d.o.s7;obtain⟨z,T⟩:∃ z,args.length=z:=⟨_,rfl⟩;rw[T]at a4 f3;have c5:=zH T;have d:Yd (ah O W.heap.size 27 (zX 5 p ts J tA D E tB F I (some ⟨C,0,none⟩) z M).toArray):=by have h:=d.o;rw[T]at h;exact h
 rw[T]at t6 ⊢;clear T;have c0:=zH (yu p ts J tA D E tB F I C z M a4 Y.o.drew d.o.drew V.o b7.o);have S:O.drew.cell? ⟨b4,0,none⟩=some (.map (some mn))/\O.drew.cell? ⟨W.heap.size,0,none⟩=some (.int .i64 5)/\O.drew.cell? ⟨W.heap.size,1,none⟩=some (.int .i64 p)/\O.drew.cell? ⟨W.heap.size,2,none⟩=some (.string ts)/\O.drew.cell? ⟨W.heap.size,3,none⟩=some (.bool J)/\O.drew.cell? ⟨W.heap.size,4,none⟩=some (.slice tA D E)/\O.drew.cell? ⟨W.heap.size,5,none⟩=some (.slice tB F I)/\O.drew.cell? ⟨W.heap.size,6,none⟩=some (.slice (some ⟨C,0,none⟩) z M):=⟨Y.o.drew.c4,d.o.drew.cell 0,d.o.drew.cell 1,d.o.drew.cell 2,d.o.drew.cell 3,d.o.drew.cell 4,d.o.drew.cell 5,d.o.drew.cell 6⟩;go_wp2_with fail
 go_region_held3 (fun a=>a.cell? ⟨b4,0,none⟩=some (.map (some mn))/\a.cell? ⟨W.heap.size,0,none⟩=some (.int .i64 5)/\a.cell? ⟨W.heap.size,1,none⟩=some (.int .i64 p)/\a.cell? ⟨W.heap.size,2,none⟩=some (.string ts)/\a.cell? ⟨W.heap.size,3,none⟩=some (.bool J)/\a.cell? ⟨W.heap.size,4,none⟩=some (.slice tA D E)/\a.cell? ⟨W.heap.size,5,none⟩=some (.slice tB F I)/\a.cell? ⟨W.heap.size,6,none⟩=some (.slice (some ⟨C,0,none⟩) z M))
  (with_reducible assumption)
  (first
   |(go_at_call 63;(with_reducible refine c0.o.mono ?_);rintro e y2 ⟨i2,rfl,f4,b8,B,c3,b0,a5⟩))
 clear c0 S a5 t0 t1 t2 t3 t4 t5 t6 c4 Y d;have a1:Yd (ag (ZQ ms mn) W y2):=(ag.of_below HY.o).trans ((ag.refl _ O).drew.trans (ag.of_below b0.o));clear b0 HY;rcases b8.o with rfl|rfl
 ·go_wp2_with fail;clear f4 b8
  go_loopg [10,67] z (fun gk g7 g8 wr=>∃ j:Nat,gk+j=z/\g8=.int .i64 (j:Int)/\g7=.int .i64 (cj N sg args j)/\Yd (ZN f sg N nm Bq h G c m tr xs ys b1 b2 b3 b4 b5 ms mn w wr/\ag (ZQ ms mn) W wr/\ah wr W.heap.size 27 (zX 5 p ts J tA D E tB F I (some ⟨C,0,none⟩) z M).toArray))
  case atStart=>exact⟨0,by omega,rfl,by rw[Bh],B.o,a1.o,c3.o⟩
  case round=>
   clear B a1 c3;obtain⟨j,h1,rfl,rfl,HI⟩:=hrel;obtain⟨hZ,hK,hT⟩:=HI.o;have HZ:=zH hZ;have HK:=zH hK;have X:=zH hT;clear HI hZ hK hT;by_cases hj:j<z
   ·have a3:j<args.length:=by rw[c5.o];exact hj
    obtain⟨pb,po,k',v',s',r,A2,n2,c2,B2,m3,d2,Xr,xl,xc,c7,Q,f5,e0,e1,e2,e3,e4,e5,e6⟩:=aZ (Ar:=some ⟨C,0,none⟩) (fun _=>⟨C,0,rfl,V.o.lt,fun i hi q hq=>by rw[V.o.cell,Nat.zero_add];exact d5.o i hi q hq⟩) (fun i hi=>(d8.o i hi).tc) HZ.o.b a3;simp only[Option.some.injEq,Addr.mk.injEq,and_true]at c7;obtain⟨rfl,rfl⟩:=c7;simp only[Nat.zero_add]at e0 e1 e2 e3 e4 e5 e6;obtain⟨A,a9⟩:∃ A,(wr.alloc (.cells #[.int .i64 k',.int .i64 v',.string s',.bool r,.slice A2 n2 c2,.slice B2 m3 d2,.slice Xr xl xc] 27)).drew=A:=⟨_,rfl⟩;have a2:zZ wr A:=a9▸(ae wr _).drew;have o:ah A wr.heap.size 27 #[.int .i64 k',.int .i64 v',.string s',.bool r,.slice A2 n2 c2,.slice B2 m3 d2,.slice Xr xl xc]:=a9▸(ah.new wr 27 #[.int .i64 k',.int .i64 v',.string s',.bool r,.slice A2 n2 c2,.slice B2 m3 d2,.slice Xr xl xc]).drew;have U:=HZ.o.below a2;have S:A.cell? ⟨b3,0,none⟩=some (.func (.func 62) #[] #[.pointer (some ⟨b1,0,none⟩),.pointer (some ⟨b2,0,none⟩),.pointer (some ⟨b3,0,none⟩),.pointer (some ⟨b4,0,none⟩),.pointer (some ⟨b5,0,none⟩)])/\A.cell? ⟨b5,0,none⟩=some (.int .i64 (N:Int))/\A.cell? ⟨wr.heap.size,0,none⟩=some (.int .i64 k')/\A.cell? ⟨wr.heap.size,1,none⟩=some (.int .i64 v')/\A.cell? ⟨wr.heap.size,2,none⟩=some (.string s')/\A.cell? ⟨wr.heap.size,3,none⟩=some (.bool r)/\A.cell? ⟨wr.heap.size,4,none⟩=some (.slice A2 n2 c2)/\A.cell? ⟨wr.heap.size,5,none⟩=some (.slice B2 m3 d2)/\A.cell? ⟨wr.heap.size,6,none⟩=some (.slice Xr xl xc):=⟨U.c3,U.c5,o.cell 0,o.cell 1,o.cell 2,o.cell 3,o.cell 4,o.cell 5,o.cell 6⟩;have b6:Yd (Calls prog 62 #[.agg (zX k' v' s' r A2 n2 c2 B2 m3 d2 Xr xl xc).toArray,zY b1,zY b2,zY b3,zY b4,zY b5] A fun e l=>e=.returned (.int .i64 (cz N ((args[j]).sb sg)))/\Yd (ZN f sg N nm Bq h G c m tr xs ys b1 b2 b3 b4 b5 ms mn w l/\ag (ZQ ms mn) wr l)/\(l.cell? ⟨b3,0,none⟩=some (.func (.func 62) #[] #[zY b1,zY b2,zY b3,zY b4,zY b5])/\l.cell? ⟨b5,0,none⟩=some (.int .i64 (N:Int))/\l.cell? ⟨wr.heap.size,0,none⟩=some (.int .i64 k')/\l.cell? ⟨wr.heap.size,1,none⟩=some (.int .i64 v')/\l.cell? ⟨wr.heap.size,2,none⟩=some (.string s')/\l.cell? ⟨wr.heap.size,3,none⟩=some (.bool r)/\l.cell? ⟨wr.heap.size,4,none⟩=some (.slice A2 n2 c2)/\l.cell? ⟨wr.heap.size,5,none⟩=some (.slice B2 m3 d2)/\l.cell? ⟨wr.heap.size,6,none⟩=some (.slice Xr xl xc))):=by
     have h:=HC.o j a3 _ U;rw[Q]at h;refine h.mono ?_;rintro e l ⟨rfl,g,c9⟩;have t:=U.blk c9 o;exact⟨rfl,⟨g,(ag.of_below a2).trans c9⟩,⟨g.c3,g.c5,t.cell 0,t.cell 1,t.cell 2,t.cell 3,t.cell 4,t.cell 5,t.cell 6⟩⟩
    have g1:=Dn N sg args j;have g2:=yM N ((args[j]).sb sg);have g4:=Dp N ((args[j]).sb sg);have d7:=zH (Bg N sg args a3);have w1:IntKind.i64.wrap (cj N sg args j+cz N ((args[j]).sb sg))=cj N sg args j+cz N ((args[j]).sb sg):=IntWalk.i64_in _ (by omega);have w2:IntKind.i64.wrap ((N:Int)+1)=(N:Int)+1:=IntWalk.i64_in _ (by omega);clear U o a2 Q f5 g1 g2 g4;subst a9;go_wp2_with fail;clear e0 e1 e2 e3 e4 e5 e6
    go_region_held3 (fun a=>a.cell? ⟨b3,0,none⟩=some (.func (.func 62) #[] #[.pointer (some ⟨b1,0,none⟩),.pointer (some ⟨b2,0,none⟩),.pointer (some ⟨b3,0,none⟩),.pointer (some ⟨b4,0,none⟩),.pointer (some ⟨b5,0,none⟩)])/\a.cell? ⟨b5,0,none⟩=some (.int .i64 (N:Int))/\a.cell? ⟨wr.heap.size,0,none⟩=some (.int .i64 k')/\a.cell? ⟨wr.heap.size,1,none⟩=some (.int .i64 v')/\a.cell? ⟨wr.heap.size,2,none⟩=some (.string s')/\a.cell? ⟨wr.heap.size,3,none⟩=some (.bool r)/\a.cell? ⟨wr.heap.size,4,none⟩=some (.slice A2 n2 c2)/\a.cell? ⟨wr.heap.size,5,none⟩=some (.slice B2 m3 d2)/\a.cell? ⟨wr.heap.size,6,none⟩=some (.slice Xr xl xc))
     (with_reducible assumption)
     (first
      |(go_at_call 62;(with_reducible refine b6.o.mono ?_);rintro e y3 ⟨rfl,d6,a6⟩))
    clear b6 S a6 w1 w2;go_wp2_with fail
    go_roundg (gk-1)
    case measure=>omega
    case rel=>
     obtain⟨g3,d0⟩:=d6.o;exact⟨j+1,by omega,by go_num,by rw[d7.o],g3,HK.o.trans d0,HZ.o.blk d0 X.o⟩
   ·have f2:j=z:=by omega
    subst f2;have c1:=zH (Bb p ts J tA D E tB F I C j M a4 HZ.o.drew X.o.drew V.o b7.o);have S:wr.drew.cell? ⟨b4,0,none⟩=some (.map (some mn))/\wr.drew.cell? ⟨W.heap.size,0,none⟩=some (.int .i64 5)/\wr.drew.cell? ⟨W.heap.size,1,none⟩=some (.int .i64 p)/\wr.drew.cell? ⟨W.heap.size,2,none⟩=some (.string ts)/\wr.drew.cell? ⟨W.heap.size,3,none⟩=some (.bool J)/\wr.drew.cell? ⟨W.heap.size,4,none⟩=some (.slice tA D E)/\wr.drew.cell? ⟨W.heap.size,5,none⟩=some (.slice tB F I)/\wr.drew.cell? ⟨W.heap.size,6,none⟩=some (.slice (some ⟨C,0,none⟩) j M):=⟨HZ.o.c4,X.o.cell 0,X.o.cell 1,X.o.cell 2,X.o.cell 3,X.o.cell 4,X.o.cell 5,X.o.cell 6⟩;have f0:cj N sg args j=cz N ((Tm.mk 5 p ts n_ args).sb sg):=by
     have h:=d4.o;rw[c5.o]at h;exact h
    rw[f0];go_wp2_with fail
    go_region_held3 (fun a=>a.cell? ⟨b4,0,none⟩=some (.map (some mn))/\a.cell? ⟨W.heap.size,0,none⟩=some (.int .i64 5)/\a.cell? ⟨W.heap.size,1,none⟩=some (.int .i64 p)/\a.cell? ⟨W.heap.size,2,none⟩=some (.string ts)/\a.cell? ⟨W.heap.size,3,none⟩=some (.bool J)/\a.cell? ⟨W.heap.size,4,none⟩=some (.slice tA D E)/\a.cell? ⟨W.heap.size,5,none⟩=some (.slice tB F I)/\a.cell? ⟨W.heap.size,6,none⟩=some (.slice (some ⟨C,0,none⟩) j M))
     (with_reducible assumption)
     (first
      |(go_at_call 63;(with_reducible refine c1.o.mono ?_);rintro e y2 ⟨z2,rfl,f6,B,a5,a6⟩))
    clear c1 S a5 a6 f6;go_wp2_with fail;go_ret;exact⟨rfl,B.o.1,HK.o.trans ((ag.refl _ wr).drew.trans B.o.2)⟩
 ·have hp:=yM N ((Tm.mk 5 p ts n_ args).sb sg);go_wp2_with fail;go_ret;exact⟨rfl,B.o,a1.o⟩
end
end Go.Proofs.YtlhojoefhannnaaGreat
namespace Go.Proofs.YtlhojoefhannnaaGreat
open Go.Proofs.Tryz Go.RowKit NumB
theorem aY {w:World} {o:Obj} {k:Nat} (h:k=w.heap.size):(w.alloc o).heap[k]?=some o:=by
 subst h;have h:(w.alloc o).heap=w.heap.push o:=rfl;rw[h,Array.getElem?_push_size]
theorem aP {w:World} {o:Obj} {k:Nat} (h:k≠w.heap.size):(w.alloc o).heap[k]?=w.heap[k]?:=by
 have a:(w.alloc o).heap=w.heap.push o:=rfl;rw[a,Array.getElem?_push,if_neg h]
def DA:Tm->Nat
 |.mk k v _ _ _=>if k=1 then v.toNat+1 else 0
section
variable {P:Nat->Prop} {f:Nat->Option Tm} {sg:Int->Tm} {N nm Bq h G c m:Nat} {tr:Value} {xs ys:List Value} {w:World} {L:List Tm} {b:Int->Option Tm}
theorem Co {b1 b2 b3 b4 b5 ms mn:Nat} (hN:1<=N) (a0:N<=1000000) (hB:qm P f w nm xs b) (l:kg nm L) (hW:kX L b) (hg:iY b sg):
 ∀ (K:Nat) (t:Tm) (cs:List Value),(t.sb sg).count*(nm+1)+DA t<K->t∈L->cU P f w t cs->∀ W,ZN f sg N nm Bq h G c m tr xs ys b1 b2 b3 b4 b5 ms mn w W->
 Calls prog 62 #[.agg cs.toArray,.pointer (some ⟨b1,0,none⟩),.pointer (some ⟨b2,0,none⟩),.pointer (some ⟨b3,0,none⟩),.pointer (some ⟨b4,0,none⟩),.pointer (some ⟨b5,0,none⟩)] W fun e X=>e=.returned (.int .i64 (cz N (t.sb sg)))/\ZN f sg N nm Bq h G c m tr xs ys b1 b2 b3 b4 b5 ms mn w X/\ag (ZQ ms mn) W X:=by
 intro K
 induction K with
 |zero=>intro t cs h;omega
 |succ K ih=>
 intro t cs hK ht p W g;have Y:=(l.1.2 _ ht).1;obtain⟨k,v,s,n,d⟩:=t;by_cases j:k=1
 ·have ev:=aK Y j;have hr:=l.2 _ ht v ev;obtain⟨i,U⟩:=Int.eq_ofNat_of_zero_le hr.1;subst j U;have x:i<nm:=by omega
  rw[fK]at hK ⊢;obtain⟨F,V,O,J,tA,B,C,tB,D,E,A,I,M,rfl⟩:=p.form;obtain⟨rfl,rfl⟩:F=1/\V=(i:Int):=by
   cases p;exact⟨rfl,rfl⟩
  rcases hB.cell i x with ⟨a2,r⟩|⟨y,cy,S,T,r⟩
  ·refine (uB x (by have:=r 0 (by omega);rw[Nat.add_zero]at this;exact this) O J tA B C tB D E A I M W g).mono ?_;rintro e X ⟨rfl,Q⟩;refine⟨?_,g.below Q,ag.of_below Q⟩;rw[hg.1 _ a2];have:(Tm.var (i:Int)).count=1:=by unfold Tm.var;rw[Tm.count,am]
   unfold cz;rw[this,Nat.min_eq_left (by omega)];rfl
  ·obtain⟨pk,pv,ps,pn,pA,pa,pc,pB,pd,pe,pX,pl,pq,rfl⟩:=T.form;have hy:=hW _ _ S;have a4:=hg.2.1 _ _ S;refine sy x O J tA B C tB D E A I M pk pv ps pn pA pa pc pB pd pe pX pl pq (fun q u hq=>by rw[r q (by have:=(zK hq).1;simpa[iP] using this)];exact hq) W g fun W1 g1=>?_;rw[a4]at hK ⊢;refine ih y _ ?_ hy.1 T W1 g1;have:DA y<DA (.mk 1 (i:Int) s n d):=by
    obtain⟨k2,v2,s2,n2,o⟩:=y;show (if k2=1 then v2.toNat+1 else 0)<(i:Int).toNat+1
    split
    ·next Z=>
     have e:=aK (l.1.2 _ hy.1).1 Z;have:=hy.2 _ e;have:=(l.2 _ hy.1 _ e).1;omega
    ·omega
   omega
 ·by_cases z:k=5
  ·subst z;obtain⟨F,V,O,J,tA,B,C,tB,D,E,A,I,M,rfl⟩:=p.form;obtain rfl:F=5:=by
    cases p;rfl
   refine uA hN a0 V O J tA B C tB D E A I M p Y (fun i U cs a1 W1 g1=>?_) W g;refine ih _ cs ?_ ((l.1.2 _ ht).2.2 _ (zQ U)) a1 W1 g1;have h1:=dN (fun v e=>j (aS e).1) (Tm.cn_fine _ Y) (zQ U) sg;have Z:DA ((Tm.mk 5 v s n d).args[i])<=nm:=by
    have hm:=(l.1.2 _ ht).2.2 _ (zQ U)
    revert hm
    generalize (Tm.mk 5 v s n d).args[i]=a;intro hm;obtain⟨k2,v2,s2,n2,o⟩:=a;show (if k2=1 then v2.toNat+1 else 0)<=nm
    split
    ·next Z=>
     have e:=aK (l.1.2 _ hm).1 Z;have:=l.2 _ hm _ e;omega
    ·omega
   have h3:=Nat.mul_le_mul_right (nm+1) (Nat.succ_le_of_lt h1);rw[Nat.succ_mul]at h3;omega
  ·have a3:=fN Y z;subst a3;obtain⟨F,V,O,J,tA,B,C,tB,D,E,A,I,M,rfl⟩:=p.form;obtain rfl:F=k:=by
    cases p;rfl
   refine (uz b1 b2 b3 b4 b5 F V O J tA B C tB D E A I M j z W).mono ?_;rintro e X ⟨rfl,Q⟩;refine⟨?_,g.below Q,ag.of_below Q⟩;unfold cz;rw[bX sg j,bE,Tm.count,am,Nat.min_eq_left (by omega)];rfl
theorem vE (U:1<=N) (A:N<=1000000) (I:dL nm w Bq h G c tr xs m ys) (F:qm P f w nm xs b) (J:kg nm L) (M:kX L b) (Q:iY b sg) {t:Tm} {cs:List Value} (S:t∈L) (B:cU P f w t cs):
 Calls prog 38 #[.pointer (some ⟨h,0,none⟩),.agg cs.toArray,.int .i64 (N:Int)] w fun e w'=>e=.returned (.int .i64 (cz N (t.sb sg)))/\zZ w w':=by
 have V:=@run_makeMap prog;obtain⟨n,v,r,p,tA,i,j,tB,k,l,d,o,q,rfl⟩:=B.form;have a:ah ((((((((w.alloc (.cells #[.pointer (some ⟨h,0,none⟩)] 68)).alloc (.cells #[.int .i64 n,.int .i64 v,.string r,.bool p,.slice tA i j,.slice tB k l,.slice d o q] 27)).alloc (.cells #[.int .i64 (N:Int)] 3)).alloc (.map #[] 0)).alloc (.map #[] 0)).alloc (.cells #[.map (some (w.heap.size+1+1+1))] 67)).alloc (.cells #[.map (some (w.heap.size+1+1+1+1))] 108)).alloc (.cells #[.nilFunc] 48)) (w.heap.size+1+1+1+1+1+1+1) 48 #[.nilFunc]:=by
  unfold ah
  repeat (first|exact aY (by simp)|rw[aP (by simp<;>omega)])
 have E:=a.frozen 0;have D:=a.cell 0;have C:(store ⟨w.heap.size+1+1+1+1+1+1+1,0,none⟩ (.func (.func 62) #[] #[.pointer (some ⟨w.heap.size,0,none⟩),.pointer (some ⟨w.heap.size+1+1+1+1+1,0,none⟩),.pointer (some ⟨w.heap.size+1+1+1+1+1+1+1,0,none⟩),.pointer (some ⟨w.heap.size+1+1+1+1+1+1,0,none⟩),.pointer (some ⟨w.heap.size+1+1,0,none⟩)])).run prog ((((((((w.alloc (.cells #[.pointer (some ⟨h,0,none⟩)] 68)).alloc (.cells #[.int .i64 n,.int .i64 v,.string r,.bool p,.slice tA i j,.slice tB k l,.slice d o q] 27)).alloc (.cells #[.int .i64 (N:Int)] 3)).alloc (.map #[] 0)).alloc (.map #[] 0)).alloc (.cells #[.map (some (w.heap.size+1+1+1))] 67)).alloc (.cells #[.map (some (w.heap.size+1+1+1+1))] 108)).alloc (.cells #[.nilFunc] 48))=.ok () (((((((((w.alloc (.cells #[.pointer (some ⟨h,0,none⟩)] 68)).alloc (.cells #[.int .i64 n,.int .i64 v,.string r,.bool p,.slice tA i j,.slice tB k l,.slice d o q] 27)).alloc (.cells #[.int .i64 (N:Int)] 3)).alloc (.map #[] 0)).alloc (.map #[] 0)).alloc (.cells #[.map (some (w.heap.size+1+1+1))] 67)).alloc (.cells #[.map (some (w.heap.size+1+1+1+1))] 108)).alloc (.cells #[.nilFunc] 48)).setCell ⟨w.heap.size+1+1+1+1+1+1+1,0,none⟩ (.func (.func 62) #[] #[.pointer (some ⟨w.heap.size,0,none⟩),.pointer (some ⟨w.heap.size+1+1+1+1+1,0,none⟩),.pointer (some ⟨w.heap.size+1+1+1+1+1+1+1,0,none⟩),.pointer (some ⟨w.heap.size+1+1+1+1+1+1,0,none⟩),.pointer (some ⟨w.heap.size+1+1,0,none⟩)])):=by
  rw[run_store _ _ _ _ _ rfl,D,E];rfl
 clear a E D;have y:Yd (Calls prog 62 #[.agg (zX n v r p tA i j tB k l d o q).toArray,.pointer (some ⟨w.heap.size,0,none⟩),.pointer (some ⟨w.heap.size+1+1+1+1+1,0,none⟩),.pointer (some ⟨w.heap.size+1+1+1+1+1+1+1,0,none⟩),.pointer (some ⟨w.heap.size+1+1+1+1+1+1,0,none⟩),.pointer (some ⟨w.heap.size+1+1,0,none⟩)] ((((((((w.alloc (.cells #[zY h] 68)).alloc (.cells #[.int .i64 n,.int .i64 v,.string r,.bool p,.slice tA i j,.slice tB k l,.slice d o q] 27)).alloc (.cells #[.int .i64 (N:Int)] 3)).alloc (.map #[] 0)).alloc (.map #[] 0)).alloc (.cells #[.map (some (w.heap.size+1+1+1))] 67)).alloc (.cells #[.map (some (w.heap.size+1+1+1+1))] 108)).alloc (.cells #[.func (.func 62) #[] #[.pointer (some ⟨w.heap.size,0,none⟩),.pointer (some ⟨w.heap.size+1+1+1+1+1,0,none⟩),.pointer (some ⟨w.heap.size+1+1+1+1+1+1+1,0,none⟩),.pointer (some ⟨w.heap.size+1+1+1+1+1+1,0,none⟩),.pointer (some ⟨w.heap.size+1+1,0,none⟩)]] 48)) fun e w'=>e=.returned (.int .i64 (cz N (t.sb sg)))/\zZ w w'):=by
  have z:zZ w ((((((((w.alloc (.cells #[.pointer (some ⟨h,0,none⟩)] 68)).alloc (.cells #[.int .i64 n,.int .i64 v,.string r,.bool p,.slice tA i j,.slice tB k l,.slice d o q] 27)).alloc (.cells #[.int .i64 (N:Int)] 3)).alloc (.map #[] 0)).alloc (.map #[] 0)).alloc (.cells #[.map (some (w.heap.size+1+1+1))] 67)).alloc (.cells #[.map (some (w.heap.size+1+1+1+1))] 108)).alloc (.cells #[.func (.func 62) #[] #[.pointer (some ⟨w.heap.size,0,none⟩),.pointer (some ⟨w.heap.size+1+1+1+1+1,0,none⟩),.pointer (some ⟨w.heap.size+1+1+1+1+1+1+1,0,none⟩),.pointer (some ⟨w.heap.size+1+1+1+1+1+1,0,none⟩),.pointer (some ⟨w.heap.size+1+1,0,none⟩)]] 48)):=((((((((Below.refl _ w).alloc zA _).alloc (by simp) _).alloc (by simp;omega) _).alloc (by simp;omega) _).alloc (by simp;omega) _).alloc (by simp;omega) _).alloc (by simp;omega) _).alloc (by simp;omega) _;refine (Co U A F J M Q _ t _ (Nat.lt_succ_self _) S B ((((((((w.alloc (.cells #[.pointer (some ⟨h,0,none⟩)] 68)).alloc (.cells #[.int .i64 n,.int .i64 v,.string r,.bool p,.slice tA i j,.slice tB k l,.slice d o q] 27)).alloc (.cells #[.int .i64 (N:Int)] 3)).alloc (.map #[] 0)).alloc (.map #[] 0)).alloc (.cells #[.map (some (w.heap.size+1+1+1))] 67)).alloc (.cells #[.map (some (w.heap.size+1+1+1+1))] 108)).alloc (.cells #[.func (.func 62) #[] #[.pointer (some ⟨w.heap.size,0,none⟩),.pointer (some ⟨w.heap.size+1+1+1+1+1,0,none⟩),.pointer (some ⟨w.heap.size+1+1+1+1+1+1+1,0,none⟩),.pointer (some ⟨w.heap.size+1+1+1+1+1+1,0,none⟩),.pointer (some ⟨w.heap.size+1+1,0,none⟩)]] 48)) (b1:=w.heap.size) (b2:=w.heap.size+1+1+1+1+1) (b3:=w.heap.size+1+1+1+1+1+1+1) (b4:=w.heap.size+1+1+1+1+1+1) (b5:=w.heap.size+1+1) (ms:=w.heap.size+1+1+1) (mn:=w.heap.size+1+1+1+1) ⟨⟨68,?_⟩,⟨67,?_⟩,⟨48,?_⟩,⟨108,?_⟩,⟨3,?_⟩,I.below z,z,by omega,⟨by omega,by omega⟩,⟨0,_,.empty (c:=0) ?_,fun u x h=>(by cases h)⟩,⟨0,_,.empty (c:=0) ?_,fun u x h=>(by cases h)⟩⟩).mono ?_
  ·unfold ah;repeat (first|exact aY (by simp)|rw[aP (by simp<;>omega)])
  ·unfold ah;repeat (first|exact aY (by simp)|rw[aP (by simp<;>omega)])
  ·unfold ah;repeat (first|exact aY (by simp)|rw[aP (by simp<;>omega)])
  ·unfold ah;repeat (first|exact aY (by simp)|rw[aP (by simp<;>omega)])
  ·unfold ah;repeat (first|exact aY (by simp)|rw[aP (by simp<;>omega)])
  ·rw[aP (by simp<;>omega),aP (by simp<;>omega),aP (by simp<;>omega),aP (by simp<;>omega)];exact aY (by simp)
  ·repeat (first|exact aY (by simp)|rw[aP (by simp<;>omega)])
  rintro e w' ⟨rfl,g,W⟩;exact⟨rfl,g.b⟩
 clear I F J M Q S B;go_enter func38,ntmps38;go_wp2_with fail;refine y.o.mono ?_;rintro e X ⟨rfl,O⟩;have T:=zH O;clear O C;go_wp2_with fail;go_ret;exact⟨rfl,T.o⟩
end
mutual
def Tm.lt (n:Int):Tm->Bool
 |.mk k v _ _ args=>if k=1 then decide (v<n) else tW n args
def tW (n:Int):List Tm->Bool
 |[]=>true
 |t::l=>t.lt n&&tW n l
end
theorem vg {n:Int} {l:List Tm}:tW n l=true↔∀ j (h:j<l.length),(l[j]).lt n=true:=by
 induction l with
 |nil=>simp[tW]
 |cons x l g=>
  simp only[tW,Bool.and_eq_true,g];constructor
  ·rintro⟨d,e⟩ j a;cases j with
   |zero=>exact d
   |succ j=>exact e j (by simpa using a)
  ·intro h;exact⟨h 0 (by simp),fun j a=>h (j+1) (by simpa using a)⟩
theorem mU {w:World} {args:List Tm} {Ar:Option Addr} {cs:Nat->List Value} (Q:0<args.length->∃ b o,Ar=some ⟨b,o,none⟩/\b<w.heap.size/\∀ i,i<args.length->∀ j,j<7->w.cell? ⟨b,o+i*7+j,none⟩=(cs i)[j]?)
 (I:∀ i (h:i<args.length),TC w args[i] (cs i)) (g E:Nat) (t:args.length<=g) (hm:g<=maxLen) (q:Nat->Bool) (W:World) (F:zZ w W)
 (M:∀ j,j<args.length->∀ r,zZ W r->Calls prog 137 #[.agg (cs j).toArray,.pointer (some ⟨E,0,none⟩)] r fun e w'=>e=.returned (.bool (q j))/\zZ r w'):
 Calls prog 158 #[.slice Ar args.length g,.func (.func 137) #[] #[.pointer (some ⟨E,0,none⟩)]] W fun e r=>∃ z:Int,e=.returned (.int .i64 z)/\zZ W r/\((z = -1/\∀ j,j<args.length->q j=false)\/(0<=z/\∃ j,j<args.length/\q j=true)):=by
 have U:=zH Q;have S:=zH I;have T:=zH M;have p:=zH F;unfold maxLen at hm;clear Q I M F;obtain⟨l,B⟩:∃ l,args.length=l:=⟨_,rfl⟩;rw[B]at t ⊢;have C:=zH B;clear B;go_enter func158,ntmps158;go_wp2_with fail
 go_loopg [8] l (fun gk s8 wr=>∃ j:Nat,gk+j=l/\s8=.int .i64 (j:Int)/\Yd (∀ i,i<j->q i=false)/\Yd (zZ W wr))
 case atStart=>exact⟨0,by omega,rfl,fun i O=>absurd O (by omega),Below.refl _ _⟩
 case round=>
  obtain⟨j,a0,rfl,D,k⟩:=hrel;by_cases hj:j<l
  ·have d:j<args.length:=by rw[C.o];exact hj
   have v:=p.o.trans (k.o.mono p.o.size);obtain⟨b,o,k',v',s',a2,A2,n2,c2,B2,m3,d2,Xr,xl,xc,y,A,a1,V,X,Y,Z,e4,e5,e6⟩:=aZ U.o S.o v d;subst y;have a:=T.o j d wr k.o;rw[A]at a;have a:=zH a;go_wp2_with fail;refine a.o.mono ?_;rintro e w3 ⟨rfl,J⟩;have n:=zH (k.o.trans (J.mono k.o.size));clear J V X Y Z e4 e5 e6 a;cases hq:q j with
   |true=>
    go_wp2_with fail;go_ret;exact⟨_,rfl,n.o,.inr ⟨by omega,j,by rw[C.o]at d;exact d,hq⟩⟩
   |false=>
    have x:Yd (∀ i,i<j+1->q i=false):=fun i O=>by
     by_cases h:i=j
     ·rw[h];exact hq
     ·exact D.o i (by omega)
    go_wp2_with fail
    go_roundg (gk-1)
    case measure=>omega
    case rel=>exact⟨j+1,by omega,by go_num,x,n.o⟩
  ·obtain rfl:j=l:=by omega
   go_wp2_with fail;go_ret;exact⟨_,rfl,k.o,.inl ⟨rfl,D.o⟩⟩
theorem qB (w:World) (a d:Obj):zZ w ((w.alloc a).alloc d):=(ae w a).alloc (by simp) d
theorem vR (n:Int) {w:World} {t:Tm} {cs:List Value} (h:TC w t cs):∀ (W:World),zZ w W->
 Calls prog 98 #[.agg cs.toArray,.int .i64 n] W fun e g=>e=.returned (.bool (t.lt n))/\zZ W g:=by
 induction h with
 |mk k v s O a A B Ar y cs hk hv hs hA hB hn V hm X U Z=>
  intro W hW;obtain⟨A1,q1,rfl,_⟩:=hA;obtain⟨B1,q2,rfl,_⟩:=hB;have D:Yd (k=1->(Tm.mk k v s O a).lt n=decide (v<n)):=fun h=>by rw[Tm.lt,if_pos h]
  have E:Yd (k≠1->(Tm.mk k v s O a).lt n=tW n a):=fun h=>by rw[Tm.lt,if_neg h]
  have S:=zH hW;have q:Yd (∀ (o:Nat) (i:World),zZ w i->i.cell? ⟨o,0,none⟩=some (.int .i64 n)->o<i.heap.size->∀ j (d:j<a.length) (g:World),zZ i g->Calls prog 137 #[.agg (cs j).toArray,zY o] g fun e w'=>e=.returned (.bool (!(a[j].lt n)))/\zZ g w'):=by
   intro o i r J C j d g M;have a3:=(M.cell (p:=⟨o,0,none⟩) C).trans J;have a5:o<g.heap.size:=zD C M.size;have F:=Z j d;obtain⟨k',v',s',a1,A2,n2,c2,B2,m3,d2,Xr,xl,xc,hf⟩:=(U j d).form;rw[hf]at F ⊢;have HI:Yd (∀ T,zZ g T->Calls prog 98 #[.agg (zX k' v' s' a1 A2 n2 c2 B2 m3 d2 Xr xl xc).toArray,.int .i64 n] T fun e w'=>e=.returned (.bool (a[j].lt n))/\zZ T w'):=fun T h3=>F T (r.trans ((M.trans (h3.mono M.size)).mono r.size));generalize (a[j]).lt n=z at*;clear Z U X D E F hf;go_enter func137,ntmps137;go_wp2_with fail;refine (HI.o _ (by exact ae _ _)).mono ?_;rintro e w3 ⟨rfl,I⟩;go_wp2_with fail;go_ret;exact⟨rfl,(ae g _).trans (I.mono (ae g _).size)⟩
  have a0:Yd (∀ (o:Nat) (i:World),zZ w i->i.cell? ⟨o,0,none⟩=some (.int .i64 n)->o<i.heap.size->Calls prog 136 #[.slice Ar a.length y,.func (.func 137) #[] #[zY o]] i fun e g=>e=.returned (.bool (!(tW n a)))/\zZ i g):=by
   intro o i r J C;have HF:=zH (mU X U y o V hm (fun j=>if d:j<a.length then !((a[j]).lt n) else false) i r (fun j d g M=>by simp only[dif_pos d];exact q.o o i r J C j d g M));have Q:Yd (∀ z:Int,((z = -1/\∀ j,j<a.length->(if d:j<a.length then !((a[j]).lt n) else false)=false)\/(0<=z/\∃ j,j<a.length/\(if d:j<a.length then !((a[j]).lt n) else false)=true))->decide (0<=z)=!(tW n a)):=fun z Y=>by
    rcases Y with ⟨rfl,h⟩|⟨h0,j,d,h⟩
    ·have:tW n a=true:=vg.2 fun j d=>by have:=h j d;simpa[d] using this
     rw[this];rfl
    ·have:tW n a=false:=by
      cases I:tW n a with
      |false=>rfl
      |true=>have:=vg.1 I j d;simp[d,this]at h
     rw[this,decide_eq_true h0];rfl
   generalize tW n a=z0 at*;clear Z U X D E q;go_enter func136,ntmps136;go_wp2_with fail;refine HF.o.mono ?_;rintro e w3 ⟨z,rfl,I,Y⟩;have hd:=Q.o z Y;clear Y HF Q;go_wp2_with fail;go_ret;exact⟨rfl,I⟩
  clear Z U X q hk hv hs hn hW;generalize (Tm.mk k v s O a).lt n=tl at*;generalize O.neg=ng at*;generalize O.num.length=m1 at*;generalize O.den.length=m2 at*;generalize tW n a=zl at*;generalize a.length=l at*;have x:=zH (qB W (.cells #[.int .i64 k,.int .i64 v,.string s,.bool ng,.slice A1 m1 q1,.slice B1 m2 q2,.slice Ar l y] 27) (.cells #[.int .i64 n] 3));have a2:=zH (ah.new (W.alloc (.cells #[.int .i64 k,.int .i64 v,.string s,.bool ng,.slice A1 m1 q1,.slice B1 m2 q2,.slice Ar l y] 27)) 3 #[.int .i64 n]);by_cases r:k=1
  ·obtain rfl:=D.o r;subst r;go_enter func98,ntmps98;go_wp2_with fail;go_ret;exact⟨rfl,x.o⟩
  ·obtain rfl:=E.o r;have a4:(k==1)=false:=zL r;go_enter func98,ntmps98;go_wp2_with fail;refine (a0.o (W.heap.size+1) _ (by exact S.o.trans (x.o.mono S.o.size)) (by simp) (by simp)).mono ?_;rintro e w3 ⟨rfl,I⟩;go_wp2_with fail;go_ret;exact⟨by simp,x.o.trans (I.mono x.o.size)⟩
theorem xQ (n:Int) {w:World} {args:List Tm} {Ar:Option Addr} {cs:Nat->List Value} (hr:0<args.length->∃ b o,Ar=some ⟨b,o,none⟩/\b<w.heap.size/\∀ i,i<args.length->∀ j,j<7->w.cell? ⟨b,o+i*7+j,none⟩=(cs i)[j]?)
 (ha:∀ i (h:i<args.length),TC w args[i] (cs i)) (r:Nat) (O:args.length<=r) (hm:r<=maxLen) (T:∀ i (h:i<args.length),args[i].check=0/\args[i].lt n=true) (W:World) (hW:zZ w W):
 Calls prog 77 #[.int .i64 n,.slice Ar args.length r] W fun e a=>e=.returned (.int .i64 0)/\zZ W a:=by
 have HR:=zH hr;have HA:=zH ha;have Z:=zH T;have k:=zH hW;unfold maxLen at hm;clear hr ha T hW;obtain⟨l,hl⟩:∃ l,args.length=l:=⟨_,rfl⟩;rw[hl]at O ⊢;have HL:=zH hl;clear hl;go_enter func77,ntmps77;go_wp2_with fail
 go_loopg [10] l (fun gk a1 wr=>∃ j:Nat,gk+j=l/\a1=.int .i64 (j:Int)/\Yd (zZ W wr))
 case atStart=>exact⟨0,by omega,rfl,Below.refl _ _⟩
 case round=>
  obtain⟨j,a2,rfl,U⟩:=hrel;by_cases hj:j<l
  ·have t:j<args.length:=by rw[HL.o];exact hj
   have q:=k.o.trans (U.o.mono k.o.size);obtain⟨b,o,B,F,E,d,v,D,z,x,C,A,y,J,I,a0,Q,a3,e0,e1,e2,e3,e4,e5,e6⟩:=aZ HR.o HA.o q t;subst a0;have HT:Yd (TC w args[j] (zX B F E d v D z x C A y J I)):=by have:=HA.o j t;rw[Q]at this;exact this
   obtain⟨M,S⟩:=Z.o j t;have X:Yd (∀ a,zZ w a->Calls prog 12 #[.agg (zX B F E d v D z x C A y J I).toArray] a fun e w'=>e=.returned (.int .i64 0)/\zZ a w'):=fun a g=>by
    have:=fp HT.o a g;rw[M]at this;exact this
   have Y:Yd (∀ a,zZ w a->Calls prog 98 #[.agg (zX B F E d v D z x C A y J I).toArray,.int .i64 n] a fun e w'=>e=.returned (.bool true)/\zZ a w'):=fun a g=>by
    have:=vR n HT.o a g;rw[S]at this;exact this
   have KX:=zH (ah.new wr 27 #[.int .i64 B,.int .i64 F,.string E,.bool d,.slice v D z,.slice x C A,.slice y J I]);clear HT M S Q;go_wp2_with fail;refine (X.o _ (by exact q.trans ((ae wr (.cells #[.int .i64 B,.int .i64 F,.string E,.bool d,.slice v D z,.slice x C A,.slice y J I] 27)).mono q.size))).mono ?_;rintro e w3 ⟨rfl,g⟩;have hx:=KX.o.to g;obtain⟨x0,x1,x2,x3,x4,x5,x6⟩:=hx.s7;have p:=zH (U.o.trans (((ae wr (.cells #[.int .i64 B,.int .i64 F,.string E,.bool d,.slice v D z,.slice x C A,.slice y J I] 27)).trans (g.mono (ae wr _).size)).mono U.o.size));clear g hx e0 e1 e2 e3 e4 e5 e6;go_wp2_with fail;refine (Y.o _ (by exact k.o.trans (p.o.mono k.o.size))).mono ?_;rintro e w4 ⟨rfl,g⟩;have V:=zH (p.o.trans (g.mono p.o.size));clear g x0 x1 x2 x3 x4 x5 x6;go_wp2_with fail
   go_roundg (gk-1)
   case measure=>omega
   case rel=>exact⟨j+1,by omega,by go_num,V.o⟩
  ·obtain rfl:j=l:=by omega
   go_wp2_with fail;go_ret;exact⟨rfl,U.o⟩
theorem ru (g h:Nat) (A:Option Addr) (n c:Nat) (I:Value) (B:Nat) (xs:List Value) {w:World} {args:List Tm} {Ar:Option Addr} {cs:Nat->List Value} (v:0<args.length->∃ b o,Ar=some ⟨b,o,none⟩/\b<w.heap.size/\∀ i,i<args.length->∀ j,j<7->w.cell? ⟨b,o+i*7+j,none⟩=(cs i)[j]?)
 (t:∀ i (h:i<args.length),TC w args[i] (cs i)) (a:Nat) (d:args.length<=a) (F:a<=maxLen) (k:∀ i (h:i<args.length),args[i].check=0/\args[i].lt n=true) (W:World) (D:zZ w W)
 (x:ah W g 86 #[.pointer (some ⟨h,0,none⟩)]) (r:ew W B h A n c I xs):
 Calls prog 51 #[.pointer (some ⟨g,0,none⟩),.slice Ar args.length a] W fun e z=>e=.returned (.int .i64 0)/\zZ W z:=by
 have C:=x.cell 0;simp only[L3]at C;have q:=zH (xQ (n:Int) v t a d F k W D);have y:=r.1.cell 0;simp only[L3]at y;have p:Yd (Calls prog 53 #[zY h] W fun e J=>e=.returned (.int .i64 (n:Int))/\J=W):=by
  unfold Yd;go_enter func53,ntmps53;go_wp2_with fail;go_ret;exact⟨rfl,rfl⟩
 clear x r y v t d k;generalize args.length=l at*;go_enter func51,ntmps51;go_wp2_with fail;refine p.o.mono ?_;rintro e M ⟨rfl,rfl⟩;go_wp2_with fail;refine q.o.mono ?_;rintro e O ⟨rfl,E⟩;go_wp2_with fail;go_ret;exact⟨rfl,E⟩
end Go.Proofs.YtlhojoefhannnaaGreat
namespace Go.Proofs.YtlhojoefhannnaaGreat
open Go.Proofs.Tryz Go.ChangeShapes Go.WideShapes Go.ChangeAt Go.RowKit Go.Joins Go.Deep NumB
theorem oj {H:Type} {enc:TypeId×Value->H} {W:World} {base:Nat} {v:Value} {d:DataW H} {p:List MemPlace}
 (j:Value.okWide prog W .any base 27 v) (h:DataW.Trod enc prog W 0 (fun _=>true) true 27 v d p):∃ t cs,v=.agg cs.toArray/\TC W t cs:=by
 obtain⟨cs,rfl,g⟩:=okWide_struct underlying27 j;obtain⟨a,e⟩:=h;obtain⟨t,i⟩:=BU a _ _ e;exact⟨t,cs.toList,rfl,i⟩
end Go.Proofs.YtlhojoefhannnaaGreat
namespace Go.Proofs.YtlhojoefhannnaaGreat.LawTmUni
open Go.Proofs.Tryz Go.ChangeShapes Go.WideShapes Go.ChangeAt Go.RowKit NumB
def Walk:Prop:=∀ (t0:Tm) (c0:List Value) (t1:Tm) (c1:List Value) (w:World),TC w t0 c0->TC w t1 c1->
 Calls prog 4 #[.agg c0.toArray,.agg c1.toArray] w fun e w'=>e=.returned (.bool true)/\zZ w w'
theorem yK (g:Walk) (H:Type) (enc:TypeId×Value->H) (W:World) (base:Nat) (args:Array Value) (A M:List (DataW H)) (d:List MemPlace)
 (a:∀ (j:Nat) t v,Tryz.f4.params[j]?=some t->args[j]?=some v->Value.okWide prog W .any base t v)
 (B:DataW.Whole enc prog Tryz.f4.params.toList Rows.termUnifierMatchesSpecSpec.vars false W args.toList A M d):
 Calls prog 4 args W fun e z=>∃ v,e=.returned v/\Rows.termUnifierMatchesSpecSpec.post enc prog Tryz.f4 false true false false W args v z:=by
 have l:=B;obtain⟨p,q,i,S,rfl,V,Y⟩:=B;have o:DataW.TrodAll enc prog W 0 (fun _=>true) true Tryz.f4.params.toList args.toList A p:=i;have k:=o;clear i;rw[params4]at o a;obtain⟨C,a0,d0,I,p0,q0,r,rfl,rfl,O,r0⟩:=trodAll_cons o;obtain⟨D,a1,d1,J,p1,q1,rfl,rfl,rfl,Q,r1⟩:=trodAll_cons r0;obtain⟨rfl,rfl,rfl⟩:=trodAll_nil r1;obtain rfl:args=#[C,D]:=by cases args;simp_all
 obtain⟨rfl,rfl⟩:=trodVars_none S;obtain⟨t0,E,rfl,x⟩:=oj (a 0 27 C rfl rfl) O;obtain⟨t1,F,rfl,y⟩:=oj (a 1 27 D rfl rfl) Q;simp only[List.append_nil]at l k;refine (g t0 E t1 F W x y).mono fun e z ⟨U,T⟩=>?_;subst U;refine⟨_,rfl,zM rfl l k ?_ rfl rfl T⟩;rw[params4];intro t Z;have X:t∈[27,27]:=by simpa using Z
 have n:([27,27].all fun u=>prog.readableRec u&&decide (u<prog.types.size))=true:=by kernel_rfl
 have:=List.all_eq_true.1 n t X;simp only[Bool.and_eq_true,decide_eq_true_eq]at this;exact this
def Dw:Array Value:=#[.agg #[.int .i64 0,.int .i64 0,.string ⟨#[]⟩,.bool false,.slice none 0 0,.slice none 0 0,.slice none 0 0],.agg #[.int .i64 0,.int .i64 0,.string ⟨#[]⟩,.bool false,.slice none 0 0,.slice none 0 0,.slice none 0 0]]
theorem zj (os:Os):laidMet prog Rows.termUnifierMatchesSpecRow.laid ((World.laidAll prog os Rows.termUnifierMatchesSpecRow.laid).forCall (fun _ _=>0) ⟨#[],Dw,[]⟩).memory:=
 laidMet_laidAll Dw (by kernel_rfl) (by kernel_rfl)
theorem reads (os:Os) {H:Type} (enc:TypeId×Value->H):∃ d a,DataW.whole enc prog ((World.laidAll prog os Rows.termUnifierMatchesSpecRow.laid).forCall (fun _ _=>0) ⟨#[],Dw,[]⟩).memory Tryz.f4.params.toList Rows.termUnifierMatchesSpecSpec.vars false Dw.toList 8=some (d,[],a):=
 ⟨[.agg [.lit (.int .i64 0),.lit (.int .i64 0),.lit (.string []),.agg [.lit (.bool false),.nil,.nil],.nil],.agg [.lit (.int .i64 0),.lit (.int .i64 0),.lit (.string []),.agg [.lit (.bool false),.nil,.nil],.nil]],[],by kernel_rfl⟩
theorem CW (e:Walk) (os:Os) (a:os.Started) (H:Type) (enc:TypeId×Value->H) (F:Stop.Interp):
 ReturnsInHanded {} checked os 4 .any ((OpenSpec.ofChange Rows.termUnifierMatchesSpecSpec).preRow enc prog Tryz.f4 Rows.termUnifierMatchesSpecRow.domain false Rows.termUnifierMatchesSpecRow.laid) (((OpenSpec.ofChange Rows.termUnifierMatchesSpecSpec).at F).post enc prog Tryz.f4 false true false false):=by
 obtain⟨n,l,t⟩:=reads os enc;refine returnsInHanded_of_row (C:=checked) (s:=OpenSpec.ofChange Rows.termUnifierMatchesSpecSpec) own a (by kernel_rfl) func4
  (witness_row_at (enc:=enc) (C:=checked) false (World.laidAll prog os Rows.termUnifierMatchesSpecRow.laid) Dw rfl (by kernel_rfl) (by kernel_rfl) (by kernel_rfl)
   (OpenSpec.preRow_of_cond 8 t (by kernel_rfl) (fun k q=>by cases q) (by kernel_rfl) (zj os))) ?_
 intro W i g n o d j p _ _ r v _ _;exact yK e H enc W i g n o d j p
theorem said (d:Walk):Rows.TermUnifierMatchesSpecSaid:=
 OpenClaim.holds_of_cond 4 Tryz.f4 rfl rfl rfl rfl rfl rfl rfl ⟨rfl,rfl,rfl,rfl,rfl⟩ rfl rfl rfl rfl rfl (by kernel_rfl) func4 (by kernel_rfl)
  (of_decide_eq_true (by kernel_rfl)) (by unfold Func.isWrapper;first|(rw[if_pos (by decide +kernel)];kernel_rfl)|(rw[if_neg (by decide +kernel)];exact⟨rfl,rfl⟩))
  (fun g a H e _ F=>by rw[OpenClaim.pre_eq_preRow];exact CW d g a H e F)
end Go.Proofs.YtlhojoefhannnaaGreat.LawTmUni
namespace Go.Proofs.YtlhojoefhannnaaGreat
open Go.Proofs.Tryz Go.RowKit NumB
theorem xp {w:World} {J:List (Int×Tm)} {a b:Value} (ha:BL w a J) (F:BL w b J) (hq:∀ p∈J,p.2.err0=0/\p.2.count<=10000) (d4:J.length<=1000000) (W:World) (hW:zZ w W):
 Calls prog 11 #[a,b] W fun e U=>e=.returned (.bool true)/\zZ W U:=by
 have a6:Yd (∀ x cx,TC w x cx->x.err0=0/\x.count<=10000->∀ U,zZ w U->Calls prog 6 #[.agg cx.toArray] U fun e d=>e=.returned (.string ⟨x.shp.toArray⟩)/\zZ U d):=fun x cx hx hq U F=>i9 hx (.inr hq) U F;obtain⟨Aa,ca,d7,rfl,d0,d1,b7,b8⟩:=ha;obtain⟨Ab,cb,d8,rfl,d2,d3,c0,c1⟩:=F;have HR:=zH b7;have HA:=zH b8;have a5:=zH c0;have Q:=zH c1;have HQ:=zH hq;have a8:=zH hW;unfold maxLen at d1 d3;obtain⟨l,hl⟩:∃ l,J.length=l:=⟨_,rfl⟩;rw[hl]at d0 d2 d4 ⊢;have HL:=zH hl;clear hl b7 b8 c0 c1 hq hW;have e9:((l:Int) != (l:Int))=false:=by simp
 go_enter func11,ntmps11;go_wp2_with fail
 go_loopg [5] l (fun gk s5 wr=>∃ j:Nat,gk+j=l/\s5=.int .i64 (j:Int)/\Yd (zZ W wr))
 case atStart=>exact⟨0,by omega,rfl,Below.refl _ _⟩
 case round=>
  obtain⟨j,e4,rfl,HB⟩:=hrel;by_cases hj:j<l
  ·have v:j<J.length:=by rw[HL.o];exact hj
   have t:=(a8.o.trans (HB.o.mono a8.o.size)).drew;obtain⟨i,k,k5,v5,D,B,Z,n5,c5,B5,b5,d5,X5,l5,e5,b0,c3,V,y0,y1,y2,y3,y4,y5,y6,y7⟩:=cD HR.o HA.o t v;obtain⟨n,o,k6,v6,E,C,A6,n6,c6,B6,b6,d6,X6,l6,e6,M,O,A,z0,z1,z2,z3,z4,z5,z6,z7⟩:=cD a5.o Q.o t v;have a7:Yd (∀ d,zZ w d->(∀ q,q<8->d.cell? ⟨i,k+j*8+q,none⟩=wr.drew.cell? ⟨i,k+j*8+q,none⟩)/\∀ q,q<8->d.cell? ⟨n,o+j*8+q,none⟩=wr.drew.cell? ⟨n,o+j*8+q,none⟩):=fun d F=>⟨fun q _=>(F.cell (p:=⟨i,k+j*8+q,none⟩) V).trans (t.cell (p:=⟨i,k+j*8+q,none⟩) V).symm,fun q _=>(F.cell (p:=⟨n,o+j*8+q,none⟩) A).trans (t.cell (p:=⟨n,o+j*8+q,none⟩) A).symm⟩;have X:=HQ.o _ (zQ v);have S:=zH (a6.o _ _ c3 X);have T:=zH (a6.o _ _ O X);obtain⟨s1,c2⟩:∃ s:ByteArray,(⟨(J[j]).2.shp.toArray⟩:ByteArray)=s:=⟨_,rfl⟩;rw[c2]at S T;obtain⟨x,hx⟩:∃ x,(J[j]).1=x:=⟨_,rfl⟩;have I:Yd (∀ d,zZ w d->d.cell? ⟨i,k+j*8,none⟩=some (.int .i64 x)/\d.cell? ⟨i,k+j*8+1,none⟩=some (.int .i64 k5)/\d.cell? ⟨i,k+j*8+2,none⟩=some (.int .i64 v5)/\d.cell? ⟨i,k+j*8+3,none⟩=some (.string D)/\d.cell? ⟨i,k+j*8+4,none⟩=some (.bool B)/\d.cell? ⟨i,k+j*8+5,none⟩=some (.slice Z n5 c5)/\d.cell? ⟨i,k+j*8+6,none⟩=some (.slice B5 b5 d5)/\d.cell? ⟨i,k+j*8+7,none⟩=some (.slice X5 l5 e5)/\d.cell? ⟨n,o+j*8,none⟩=some (.int .i64 x)/\d.cell? ⟨n,o+j*8+1,none⟩=some (.int .i64 k6)/\d.cell? ⟨n,o+j*8+2,none⟩=some (.int .i64 v6)/\d.cell? ⟨n,o+j*8+3,none⟩=some (.string E)/\d.cell? ⟨n,o+j*8+4,none⟩=some (.bool C)/\d.cell? ⟨n,o+j*8+5,none⟩=some (.slice A6 n6 c6)/\d.cell? ⟨n,o+j*8+6,none⟩=some (.slice B6 b6 d6)/\d.cell? ⟨n,o+j*8+7,none⟩=some (.slice X6 l6 e6)):=fun d F=>by
    obtain⟨f3,f4,_,_,_,_,_,_,_,_,_,_,_,_,_,ea,ec,_,x0,x1,x2,x3,x4,x5,x6,x7⟩:=cD HR.o HA.o F v;obtain⟨f5,f6,_,_,_,_,_,_,_,_,_,_,_,_,_,a9,e3,_,u0,u1,u2,u3,u4,u5,u6,u7⟩:=cD a5.o Q.o F v;rw[b0]at ea;rw[M]at a9;cases ea;cases a9;obtain⟨ct,e1,_⟩:=HA.o j v;obtain⟨e0,e2,_⟩:=Q.o j v;rw[hx]at x0 u0;have g:=a7.o d F;exact⟨x0,(g.1 1 (by omega)).trans y1,(g.1 2 (by omega)).trans y2,(g.1 3 (by omega)).trans y3,(g.1 4 (by omega)).trans y4,(g.1 5 (by omega)).trans y5,(g.1 6 (by omega)).trans y6,(g.1 7 (by omega)).trans y7,u0,(g.2 1 (by omega)).trans z1,(g.2 2 (by omega)).trans z2,(g.2 3 (by omega)).trans z3,(g.2 4 (by omega)).trans z4,(g.2 5 (by omega)).trans z5,(g.2 6 (by omega)).trans z6,(g.2 7 (by omega)).trans z7⟩
   subst b0 M;have r:=zH t;have c7:=I.o _ t;have e7:(0:Int)<=(j:Int):=by omega
   have e8:(j:Int)<(l:Int):=by omega
   have f2:(x != x)=false:=by simp
   have f1:(x==x)=true:=by simp
   have f0:(s1.toList==s1.toList)=true:=beq_self_eq_true _;have a3:Yd (∀ y,Yd (Below wr.drew.heap.size wr.drew y)->Calls prog 6 #[.agg (zX k5 v5 D B Z n5 c5 B5 b5 d5 X5 l5 e5).toArray] y fun e d=>e=.returned (.string s1)/\Yd (Below wr.drew.heap.size wr.drew d)/\(d.cell? ⟨i,k+j*8,none⟩=some (.int .i64 x)/\d.cell? ⟨i,k+j*8+1,none⟩=some (.int .i64 k5)/\d.cell? ⟨i,k+j*8+2,none⟩=some (.int .i64 v5)/\d.cell? ⟨i,k+j*8+3,none⟩=some (.string D)/\d.cell? ⟨i,k+j*8+4,none⟩=some (.bool B)/\d.cell? ⟨i,k+j*8+5,none⟩=some (.slice Z n5 c5)/\d.cell? ⟨i,k+j*8+6,none⟩=some (.slice B5 b5 d5)/\d.cell? ⟨i,k+j*8+7,none⟩=some (.slice X5 l5 e5)/\d.cell? ⟨n,o+j*8,none⟩=some (.int .i64 x)/\d.cell? ⟨n,o+j*8+1,none⟩=some (.int .i64 k6)/\d.cell? ⟨n,o+j*8+2,none⟩=some (.int .i64 v6)/\d.cell? ⟨n,o+j*8+3,none⟩=some (.string E)/\d.cell? ⟨n,o+j*8+4,none⟩=some (.bool C)/\d.cell? ⟨n,o+j*8+5,none⟩=some (.slice A6 n6 c6)/\d.cell? ⟨n,o+j*8+6,none⟩=some (.slice B6 b6 d6)/\d.cell? ⟨n,o+j*8+7,none⟩=some (.slice X6 l6 e6))):=fun y Y=>(S.o y (r.o.trans (Y.out.mono r.o.size))).mono fun e d q=>by
    have z:=Y.out.trans (q.2.mono Y.out.size);exact⟨q.1,z,I.o _ (r.o.trans (z.mono r.o.size))⟩
   have a4:Yd (∀ y,Yd (Below wr.drew.heap.size wr.drew y)->Calls prog 6 #[.agg (zX k6 v6 E C A6 n6 c6 B6 b6 d6 X6 l6 e6).toArray] y fun e d=>e=.returned (.string s1)/\Yd (Below wr.drew.heap.size wr.drew d)/\(d.cell? ⟨i,k+j*8,none⟩=some (.int .i64 x)/\d.cell? ⟨i,k+j*8+1,none⟩=some (.int .i64 k5)/\d.cell? ⟨i,k+j*8+2,none⟩=some (.int .i64 v5)/\d.cell? ⟨i,k+j*8+3,none⟩=some (.string D)/\d.cell? ⟨i,k+j*8+4,none⟩=some (.bool B)/\d.cell? ⟨i,k+j*8+5,none⟩=some (.slice Z n5 c5)/\d.cell? ⟨i,k+j*8+6,none⟩=some (.slice B5 b5 d5)/\d.cell? ⟨i,k+j*8+7,none⟩=some (.slice X5 l5 e5)/\d.cell? ⟨n,o+j*8,none⟩=some (.int .i64 x)/\d.cell? ⟨n,o+j*8+1,none⟩=some (.int .i64 k6)/\d.cell? ⟨n,o+j*8+2,none⟩=some (.int .i64 v6)/\d.cell? ⟨n,o+j*8+3,none⟩=some (.string E)/\d.cell? ⟨n,o+j*8+4,none⟩=some (.bool C)/\d.cell? ⟨n,o+j*8+5,none⟩=some (.slice A6 n6 c6)/\d.cell? ⟨n,o+j*8+6,none⟩=some (.slice B6 b6 d6)/\d.cell? ⟨n,o+j*8+7,none⟩=some (.slice X6 l6 e6))):=fun y Y=>(T.o y (r.o.trans (Y.out.mono r.o.size))).mono fun e d q=>by
    have z:=Y.out.trans (q.2.mono Y.out.size);exact⟨q.1,z,I.o _ (r.o.trans (z.mono r.o.size))⟩
   have a2:Yd (Below wr.drew.heap.size wr.drew wr.drew):=Below.refl _ _;clear t c3 O V A y0 y1 y2 y3 y4 y5 y6 y7 z0 z1 z2 z3 z4 z5 z6 z7 a7 X S T c2 hx I r;go_wp2_with fail
   go_region_held3 (fun d=>d.cell? ⟨i,k+j*8,none⟩=some (.int .i64 x)/\d.cell? ⟨i,k+j*8+1,none⟩=some (.int .i64 k5)/\d.cell? ⟨i,k+j*8+2,none⟩=some (.int .i64 v5)/\d.cell? ⟨i,k+j*8+3,none⟩=some (.string D)/\d.cell? ⟨i,k+j*8+4,none⟩=some (.bool B)/\d.cell? ⟨i,k+j*8+5,none⟩=some (.slice Z n5 c5)/\d.cell? ⟨i,k+j*8+6,none⟩=some (.slice B5 b5 d5)/\d.cell? ⟨i,k+j*8+7,none⟩=some (.slice X5 l5 e5)/\d.cell? ⟨n,o+j*8,none⟩=some (.int .i64 x)/\d.cell? ⟨n,o+j*8+1,none⟩=some (.int .i64 k6)/\d.cell? ⟨n,o+j*8+2,none⟩=some (.int .i64 v6)/\d.cell? ⟨n,o+j*8+3,none⟩=some (.string E)/\d.cell? ⟨n,o+j*8+4,none⟩=some (.bool C)/\d.cell? ⟨n,o+j*8+5,none⟩=some (.slice A6 n6 c6)/\d.cell? ⟨n,o+j*8+6,none⟩=some (.slice B6 b6 d6)/\d.cell? ⟨n,o+j*8+7,none⟩=some (.slice X6 l6 e6))
    (with_reducible assumption)
    (first
     |(go_at_call 6;(with_reducible refine (a3.o _ a2).mono ?_);rintro e y1 ⟨rfl,a0,c8⟩)
     |(go_at_call 6;(with_reducible refine (a4.o _ a0).mono ?_);rintro e y2 ⟨rfl,a1,c9⟩))
   have c4:Yd (zZ W y2):=HB.o.drew.trans (a1.o.mono HB.o.size);clear c7 c8 c9 a3 a4 a0 a1 a2;go_wp2_with fail
   go_roundg (gk-1)
   case measure=>omega
   case rel=>exact⟨j+1,by omega,by go_num,c4.o⟩
  ·obtain rfl:l=j:=by omega
   go_wp2_with fail;go_ret;exact⟨rfl,HB.o⟩
end Go.Proofs.YtlhojoefhannnaaGreat
namespace Go.Proofs
open Go.Shelf
def Tryz.sortI_ren:Go.Shelf.Ren:=⟨fun|5=>55|8=>81|7=>80|19=>110|20=>111|10=>101|11=>102|12=>103|13=>104|14=>105|15=>106|16=>107|17=>108|18=>109|30=>138|31=>139|32=>140|33=>141|34=>142|35=>47|40=>159|n=>n,fun|23=>54|25=>3|3=>3|32=>79|22=>54|0=>0|44=>82|46=>141|4=>4|36=>151|35=>150|41=>43|5=>5|9=>9|53=>179|57=>183|63=>204|64=>205|n=>n,fun|n=>n⟩
theorem Tryz.sortI:Go.Proofs.SlLaysM.n5 Tryz.prog Tryz.sortI_ren:={
 mixed:=by kernel_rfl
 f5:=⟨Tryz.f55.name,by decide,Tryz.func55.trans (congrArg some (by kernel_rfl))⟩
 f7:=⟨Tryz.f80.name,by decide,Tryz.func80.trans (congrArg some (by kernel_rfl))⟩
 f8:=Tryz.func81.trans (congrArg some (by kernel_rfl))
 f10:=⟨Tryz.f101.name,by decide,Tryz.func101.trans (congrArg some (by kernel_rfl))⟩
 f11:=⟨Tryz.f102.name,by decide,Tryz.func102.trans (congrArg some (by kernel_rfl))⟩
 f12:=⟨Tryz.f103.name,by decide,Tryz.func103.trans (congrArg some (by kernel_rfl))⟩
 f13:=⟨Tryz.f104.name,by decide,Tryz.func104.trans (congrArg some (by kernel_rfl))⟩
 f14:=⟨Tryz.f105.name,by decide,Tryz.func105.trans (congrArg some (by kernel_rfl))⟩
 f15:=⟨Tryz.f106.name,by decide,Tryz.func106.trans (congrArg some (by kernel_rfl))⟩
 f16:=⟨Tryz.f107.name,by decide,Tryz.func107.trans (congrArg some (by kernel_rfl))⟩
 f17:=⟨Tryz.f108.name,by decide,Tryz.func108.trans (congrArg some (by kernel_rfl))⟩
 f18:=⟨Tryz.f109.name,by decide,Tryz.func109.trans (congrArg some (by kernel_rfl))⟩
 f19:=Tryz.func110.trans (congrArg some (by kernel_rfl))
 f20:=Tryz.func111.trans (congrArg some (by kernel_rfl))
 f30:=⟨Tryz.f138.name,by decide,Tryz.func138.trans (congrArg some (by kernel_rfl))⟩
 f31:=Tryz.func139.trans (congrArg some (by kernel_rfl))
 f32:=Tryz.func140.trans (congrArg some (by kernel_rfl))
 f33:=⟨Tryz.f141.name,by decide,Tryz.func141.trans (congrArg some (by kernel_rfl))⟩
 f34:=⟨Tryz.f142.name,by decide,Tryz.func142.trans (congrArg some (by kernel_rfl))⟩
 f35:=⟨Tryz.f47.name,by decide,Tryz.func47.trans (congrArg some (by kernel_rfl))⟩
 f40:=⟨Tryz.f159.name,by decide,Tryz.func159.trans (congrArg some (by kernel_rfl))⟩
 t0:=Tryz.underlying0
 a0:=Tryz.isAgg0
 z0:=Tryz.sizeOf0
 v0:=Tryz.zeroValue0
 t3:=Tryz.underlying3
 a3:=Tryz.isAgg3
 z3:=Tryz.sizeOf3
 v3:=Tryz.zeroValue3
 t4:=Tryz.underlying4
 a4:=Tryz.isAgg4
 z4:=Tryz.sizeOf4
 v4:=Tryz.zeroValue4
 t5:=Tryz.underlying5
 a5:=Tryz.isAgg5
 z5:=Tryz.sizeOf5
 v5:=Tryz.zeroValue5
 t9:=Tryz.underlying9
 a9:=Tryz.isAgg9
 z9:=Tryz.sizeOf9
 v9:=Tryz.zeroValue9
 t22:=Tryz.underlying54
 a22:=Tryz.isAgg54
 z22:=Tryz.sizeOf54
 v22:=Tryz.zeroValue54
 t23:=Tryz.underlying54
 a23:=Tryz.isAgg54
 z23:=Tryz.sizeOf54
 v23:=Tryz.zeroValue54
 t25:=Tryz.underlying3
 a25:=Tryz.isAgg3
 z25:=Tryz.sizeOf3
 v25:=Tryz.zeroValue3
 t32:=Tryz.underlying79
 a32:=Tryz.isAgg79
 z32:=Tryz.sizeOf79
 v32:=Tryz.zeroValue79
 t35:=Tryz.underlying150
 a35:=Tryz.isAgg150
 z35:=Tryz.sizeOf150
 v35:=Tryz.zeroValue150
 t36:=Tryz.underlying151
 a36:=Tryz.isAgg151
 z36:=Tryz.sizeOf151
 v36:=Tryz.zeroValue151
 t41:=Tryz.underlying43
 a41:=Tryz.isAgg43
 z41:=Tryz.sizeOf43
 v41:=Tryz.zeroValue43
 t44:=Tryz.underlying82
 a44:=Tryz.isAgg82
 z44:=Tryz.sizeOf82
 v44:=Tryz.zeroValue82
 t46:=Tryz.underlying141
 a46:=Tryz.isAgg141
 z46:=Tryz.sizeOf141
 v46:=Tryz.zeroValue141
 t53:=Tryz.underlying179
 a53:=Tryz.isAgg179
 z53:=Tryz.sizeOf179
 v53:=Tryz.zeroValue179
 t57:=Tryz.underlying183
 a57:=Tryz.isAgg183
 z57:=Tryz.sizeOf183
 v57:=Tryz.zeroValue183
 t63:=Tryz.underlying204
 a63:=Tryz.isAgg204
 z63:=Tryz.sizeOf204
 v63:=Tryz.zeroValue204
 t64:=Tryz.underlying205
 a64:=Tryz.isAgg205
 z64:=Tryz.sizeOf205
 v64:=Tryz.zeroValue205 }
def Tryz.compI_ren:Go.Shelf.Ren:=⟨fun|43=>28|n=>n,fun|22=>54|23=>3|3=>3|4=>4|0=>0|n=>n,fun|n=>n⟩
theorem Tryz.compI:Go.Proofs.SlLaysN.n43 Tryz.prog Tryz.compI_ren:={
 mixed:=by kernel_rfl
 f43:=⟨Tryz.f28.name,by decide,Tryz.func28.trans (congrArg some (by kernel_rfl))⟩
 t0:=Tryz.underlying0
 a0:=Tryz.isAgg0
 z0:=Tryz.sizeOf0
 v0:=Tryz.zeroValue0
 t3:=Tryz.underlying3
 a3:=Tryz.isAgg3
 z3:=Tryz.sizeOf3
 v3:=Tryz.zeroValue3
 t4:=Tryz.underlying4
 a4:=Tryz.isAgg4
 z4:=Tryz.sizeOf4
 v4:=Tryz.zeroValue4
 t22:=Tryz.underlying54
 a22:=Tryz.isAgg54
 z22:=Tryz.sizeOf54
 v22:=Tryz.zeroValue54
 t23:=Tryz.underlying3
 a23:=Tryz.isAgg3
 z23:=Tryz.sizeOf3
 v23:=Tryz.zeroValue3
 i23:=by kernel_rfl }
end Go.Proofs
namespace Go.Proofs.YtlhojoefhannnaaGreat
open Go.Proofs.Tryz Go.RowKit Go.Shelf
attribute [local go_sem] Oper.semAt_some
def fC (n:Nat) (W:World) (sv:Value) (zs:List Int):Prop:=
 (sv=.slice none 0 0/\zs=[])\/∃ b cap,sv=.slice (some ⟨b,0,none⟩) zs.length cap/\b<n/\∀ j,j<zs.length->W.cell? ⟨b,j,none⟩=some (.int .i64 (zs[j]?.getD 0))
theorem fC.below {n:Nat} {A B:World} (h:Below n A B) {g:Value} {i:List Int} (l:fC n A g i):fC n B g i:=by
 rcases l with e|⟨b,a,e,d,k⟩
 ·exact .inl e
 ·exact .inr ⟨b,a,e,d,fun j o=>(h.cell (p:=⟨b,j,none⟩) d).trans (k j o)⟩
theorem fC.of_row {B T n:Nat} {w:World} {v:Value} {d:List Int} (h:w.ownsRow B T 1 v d.length (d.map (Value.int .i64))) (o:w.heap.size<=n):fC n w v d:=by
 obtain⟨p,⟨rfl,k⟩|⟨g,a,i,rfl,q,l,r,t,x,y⟩⟩:=id h
 ·exact .inl ⟨rfl,zF (by simpa using k)⟩
 ·refine .inr ⟨g,a,rfl,zD (Array.getElem?_eq_some_iff.1 l).1 o,fun j e=>?_⟩;rw[h.cellAt j (by simpa using e)];simp[e]
theorem uG (n l M I b a C:Nat) (g:List Int) (hn:1<=n) (B:a*8<=140737488351232) (Z:b<I) (J O:List Int->World->Prop)
 (Y:∀ d x W,J d W->d.length<a->YieldAt Fence.wide (n-1) prog l #[.int .i64 x] W fun e o=>(e=.returned (.bool true)/\J (d++[x]) o/\Below I W o)\/(e=.returned (.bool false)/\O (d++[x]) o))
 (W:World) (V:W.cell? ⟨M,0,none⟩=some (.slice (some ⟨b,0,none⟩) a C)) (hc:∀ j,j<a->W.cell? ⟨b,j,none⟩=some (.int .i64 (g[j]?.getD 0))) (U:J [] W):
 CallsIn Fence.wide n prog 56 #[.func (.yield l) #[] #[],.pointer (some ⟨M,0,none⟩)] W fun e o=>(∃ v,e=.returned v)/\
  ((∃ ys,ys=(List.range a).map (fun j=>g[j]?.getD 0)/\J ys o)\/(∃ d,(∃ k,k<=a/\d=(List.range k).map fun j=>g[j]?.getD 0)/\O d o)):=by
 refine callsIn_of_wp func56 rfl trivial ?_ rfl;simp only[ntmps56,List.size_toArray,zV,List.length_nil,Nat.reduceAdd,Nat.reduceSub,Array.replicate_succ,Array.replicate_zero,List.push_toArray,List.append_toArray,List.nil_append,List.cons_append]
 gi_wp2
 gi_loopw [7] (fun i wr=>∃ k:Nat,k<=a/\i=.int .i64 k/\J ((List.range k).map fun j=>g[j]?.getD 0) wr/\Below I W wr) (fun i _=>a-(intOf i).toNat)
 case atStart=>exact⟨0,Nat.zero_le _,rfl,U,Below.refl _ _⟩
 case round=>
  obtain⟨k,hk,rfl,q,y⟩:=hrel;have E:k<a->wr.cell? ⟨b,k,none⟩=some (.int .i64 (g[k]?.getD 0)):=fun h=>(y.cell (p:=⟨b,k,none⟩) Z).trans (hc k h);have z:((List.range (k+1)).map fun j=>g[j]?.getD 0)=((List.range k).map fun j=>g[j]?.getD 0)++[g[k]?.getD 0]:=by simp[List.range_succ]
  by_cases t:k<a
  ·obtain⟨fn,T,A,Q,hy,X⟩:=Y _ (g[k]?.getD 0) wr q (by simpa using t);have S:=E t
   gi_wp2
   refine X.mono ?_;rintro e W3 (⟨rfl,D,F⟩|⟨rfl,r⟩)
   ·gi_wp2
    go_roundw
    case rel=>exact⟨k+1,by omega,by simp,by rw[z];exact D,y.trans F⟩
    case measure=>simp[intOf];omega
   ·gi_wp2
    refine bodyPost_ret (results_none rfl _ _ _) rfl ?_;exact⟨⟨_,rfl⟩,.inr ⟨_,⟨k+1,by omega,z.symm⟩,r⟩⟩
  ·obtain rfl:k=a:=by omega
   gi_wp2
   go_end0
   exact⟨⟨_,rfl⟩,.inl ⟨_,rfl,q⟩⟩
theorem sN (n l d:Nat) (J:List Int->World->Prop) (W:World) (k:W.cell? ⟨d,0,none⟩=some (.slice none 0 0)) (j:J [] W):
 CallsIn Fence.wide n prog 56 #[.func (.yield l) #[] #[],.pointer (some ⟨d,0,none⟩)] W fun e g=>(∃ v,e=.returned v)/\J [] g:=by
 refine callsIn_of_wp func56 rfl trivial ?_ rfl;simp only[ntmps56,List.size_toArray,zV,List.length_nil,Nat.reduceAdd,Nat.reduceSub,Array.replicate_succ,Array.replicate_zero,List.push_toArray,List.append_toArray,List.nil_append,List.cons_append]
 gi_wp2
 gi_loopw [7] (fun i wr=>i=.int .i64 0/\J [] wr) (fun _ _=>0)
 case atStart=>exact⟨rfl,j⟩
 case round=>
  obtain⟨rfl,a⟩:=hrel
  gi_wp2
  go_end0
  exact⟨⟨_,rfl⟩,a⟩
theorem uH (a:Option Addr) (g d:Nat) (w:World):
 Calls prog 30 #[.slice a g d] w fun e w'=>e=.returned (.func (.func 56) #[] #[.pointer (some ⟨w.heap.size,0,none⟩)])/\w'=w.alloc (.cells #[.slice a g d] 54):=by
 go_enter func30,ntmps30;go_wp2_with fail;go_ret;exact⟨rfl,rfl⟩
theorem oC (a:List Int) {k:Nat} (e:k<=a.length):((List.range k).map fun j=>a[j]?.getD 0)=a.take k:=by
 apply List.ext_getElem
 ·simp[e]
 ·intro i d g;have:i<a.length:=by simp at d;omega
  simp[this]
theorem qg (n:Nat) (S:1<=n) (g r:Nat) (C:Value) (d:List Int) (a:d.length*8<=140737488351232) (w:World) (v:g<w.heap.size) (z:r<=w.heap.size) (O:w.cell? ⟨g,0,none⟩=some C) (F:fC r w C d):
 SeqStopsK Fence.wide n prog 56 #[.pointer (some ⟨g,0,none⟩)] (fun x:Int=>#[Value.int .i64 x]) (Below r) (fun ys=>ys=d) (fun o=>o <+: d) d.length w:=fun l J D W B _ _ I A=>by
 have i:=(B.cell (p:=⟨g,0,none⟩) v).trans O;rcases F.below (B.mono z) with ⟨rfl,rfl⟩|⟨b,t,rfl,M,y⟩
 ·exact (sN n l g J W i A).mono fun e E ⟨q,j⟩=>⟨q,.inl ⟨_,rfl,j⟩⟩
 ·refine (uG n l g r b d.length t d S a M J D I W i y A).mono ?_;rintro e E ⟨q,⟨ys,rfl,j⟩|⟨o,⟨k,Q,rfl⟩,j⟩⟩
  ·exact⟨q,.inl ⟨_,by rw[oC d zA,List.take_length],j⟩⟩
  ·exact⟨q,.inr ⟨_,by rw[oC d Q];exact List.take_prefix _ _,j⟩⟩
theorem wE:(prog.info? 3).map (fun i=>(i.zero,i.size,i.bytes))=some (some (.int .i64 0),1,8):=by kernel_rfl
theorem mQ (j:Nat) (O:Value) (q:List Int) (T:q.length<=maxLen) (i:q.length*8<=140737488351232) (w:World) (A:j<w.heap.size) (B:w.cell? ⟨j,0,none⟩=some O) (X:fC w.heap.size w O q):
 Calls prog 79 #[.slice none 0 0,.func (.func 56) #[] #[.pointer (some ⟨j,0,none⟩)]] w fun e Q=>∃ v,e=.returned v/\Q.ownsRow w.heap.size 3 1 v q.length (q.map (Value.int .i64))/\zZ w Q:=by
 refine (callsIn_wide (n:=6)).1 ?_;obtain⟨i0,hi,I,J,M⟩:=info_parts wE;refine callsIn_of_wp_marks func79 rfl trivial ?_ rfl;simp only[ntmps79,List.size_toArray,zV,List.length_nil,Nat.reduceAdd,Nat.reduceSub,Array.replicate_succ,Array.replicate_zero,List.push_toArray,List.append_toArray,List.nil_append,List.cons_append]
 gi_wp2
 have U:=Boxed.new w 54 (.slice none 0 0);have k:zZ w (w.alloc (.cells #[.slice none 0 0] 54)):=(Below.refl _ w).alloc zA _;refine wpIn_rangeFunc_ownG rfl (by omega) (gf:=56) (lb:=#[.pointer (some ⟨j,0,none⟩)]) rfl trivial (enters_of func56 (by kernel_rfl) rfl)
  (qg 5 (by omega) j w.heap.size O q i _ (by simp;omega) (by simp) ((k.cell (p:=⟨j,0,none⟩) A).trans B) (X.below k)) belowK_t (belowK_b (by simp)) zB (fun _=>rfl)
  (fun a W=>(∃ v,Boxed W w.heap.size 54 v/\W.ownsRow w.heap.size 3 1 v a.length (a.map (Value.int .i64))/\True)/\zZ w W)
  (fun _ _ _=>False)
  (OwnFrom.and (Own.from (holdsRow_own w.heap.size w.heap.size 54 3 1 (fun a:List Int=>a.length) (fun a=>a.map (Value.int .i64)) (fun a v=>True)) _) (ownFrom_below zA (by simp)))
  (fun _ _ _ _ _ hs _ _=>hs)
  ⟨⟨_,U,World.ownsRow_nil _ _ _ _,trivial⟩,k⟩
  (fun x=>{ tmps:=#[.slice none 0 0,.func (.func 56) #[] #[.pointer (some ⟨j,0,none⟩)],.pointer (some ⟨w.heap.size,0,none⟩),undef,.slice none 0 0,.int .i64 x,.func (.func 56) #[] #[.pointer (some ⟨j,0,none⟩)],.int .i64 x,undef,undef,undef,undef,undef],defers:=[] }) ?assign ?body ?done ?stop
 case assign=>
  intro l x W K hK
  gi_wp2
  exact hK
 case body=>
  rintro l a x W ⟨⟨v,z,d,_⟩,r⟩ a0;have B:=z.cell
  gi_wp2_with (gi_at_builtin;refine wpListIn_append_own _ rfl _ _ 54 rfl w.heap.size 3 i0 (.int .i64 0) 1 8 underlying54 hi I J M rfl (by decide) _ _ _ rfl (d.alloc _) ⟨W.heap.size,0,none⟩ 1 1 [.int .i64 x] rfl rfl (cell_one_new _ _ _) (by simp[Value.oneCell']) (by omega) (by omega) (by have:=r.size;simp;omega) ?_;intro v' w1 g o _;obtain⟨g',S,rfl⟩:=ownsRow_succ g;obtain⟨y,F,E,C,t⟩:=z.appended (by decide) d r.size zA g o;have Y:=y.cell;have Z:=y.frozen)
  exact⟨C.from _,t,⟨_,F,by simpa using E,trivial⟩,r.trans t⟩
 case done=>
  rintro D ys W V rfl ⟨⟨v,z,d,_⟩,r⟩ hK;have B:=z.cell
  gi_wp2
  refine⟨by simp,.inl ⟨_,_,rfl,run_takeDeferred hK,?_⟩⟩;exact⟨_,results_tmp rfl _ _ _,v,rfl,ownsRow_putObj d _ hK rfl,r.trans (belowK_b (w:=w) zA W D _ _ (by simp at V;omega) hK rfl rfl)⟩
 case stop=>
  rintro D c a W _ _ h _;exact h.elim
theorem qI (j:Nat) (l:Value) (d:List Int) (i:d.length<=maxLen) (a:d.length*8<=140737488351232) (w:World) (g:j<w.heap.size) (o:w.cell? ⟨j,0,none⟩=some l) (n:fC w.heap.size w l d):
 Calls prog 54 #[.func (.func 56) #[] #[.pointer (some ⟨j,0,none⟩)]] w fun e k=>∃ v,e=.returned v/\k.ownsRow w.heap.size 3 1 v d.length (d.map (Value.int .i64))/\zZ w k:=by
 have p:=zH (mQ j l d i a w g o n);clear g o n;go_enter func54,ntmps54;go_wp2_with fail;refine p.o.mono ?_;rintro e k ⟨v,rfl,q,r⟩;go_wp2_with fail;go_ret;exact⟨v,rfl,q,r⟩
end Go.Proofs.YtlhojoefhannnaaGreat

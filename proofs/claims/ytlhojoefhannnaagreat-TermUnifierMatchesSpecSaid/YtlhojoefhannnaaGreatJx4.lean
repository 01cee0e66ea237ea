/- nat.DivMod: quotient and remainder. Conditions: at most 50000 limbs, the divisor is not 0. And 22 more texts. -/
import Derived.Test.YtlhojoefhannnaaGreatShelf
import Derived.Laws.ResultCell
import Derived.Deep.Slices
import Derived.Test.YtlhojoefhannnaaGreatJx3
set_option linter.unusedVariables false
set_option linter.unusedSimpArgs false
set_option maxRecDepth 100000
set_option maxHeartbeats 51200000
namespace Go.Proofs.YtlhojoefhannnaaGreat
open Go.Proofs.Tryz Go.RowKit NumB
theorem tZ (w:World):aF w (.slice none 0 0) 0:=by
 unfold aF;rw[bd];exact (aW.nil_ (B:=0) (T:=0) w).sl
theorem AD:(prog.info? 82).map (·.size)=some 1:=by kernel_rfl
def oN (w:World) (q r:Nat) (e:Ending) (w':World):Prop:=∃ v u,e=.returned (.tuple #[v,u])/\aF w' v q/\aF w' u r/\zZ w w'
theorem oY (x y:Nat) (c d:Value) (w:World) (j:aF w c x) (k:aF w d y) (o:(aj ai x).length<=50000) (h:x<y):
 Calls prog 157 #[c,d] w (oN w (x / y) (x % y)):=by
 have f:=zH j;have l:=zH k;have n:Yd (cF x y = -1):=iv h;have i:Yd (x / y=0/\x % y=x):=⟨Nat.div_eq_of_lt h,Nat.mod_eq_of_lt h⟩;clear j k h;go_enter func157,ntmps157;go_wp2_with fail;refine (gU x y c d _ f.o l.o).mono ?_;rintro e q ⟨rfl,m,rfl⟩;rw[n.o]
 go_wp2_with (go_at_call 49;refine (dt (aj ai x) _ _ (by exact f.o) (by omega)).mono ?_;rintro e r ⟨p,rfl,b,a⟩)
 go_ret2
 rw[i.o.1,i.o.2];exact⟨_,_,rfl,tZ _,b.sl,fE a⟩
theorem tC (x y:Nat) (C P:Value) (w:World) (L:aF w C x) (M:aF w P y) (Y:(aj ai x).length<=50000) (B:0<y) (h:y<=x) (E:(aj ai y).length=1):
 Calls prog 157 #[C,P] w (oN w (x / y) (x % y)):=by
 have G:=zH L;have Q:=zH M;have V:0<=cF x y:=kj.2 h;have O:y<4294967296:=by have:=dC (n:=y) aI;rw[E,Nat.pow_one]at this;exact this
 have I:Yd (aj ai y=[y]):=gx aI (Ok.cons O Ok.nil) (by simp[mO];omega) (by simp);obtain⟨A,c,rfl,q,W,j⟩:=M;rw[I.o]at j q;rw[E];obtain⟨b,o,p,rfl,U,v,d⟩:=j.at_ (i:=0) (by simp);rw[Nat.add_zero]at d;have:p=y:=by rw[<-v];rfl
 subst this;clear L j v h E q;obtain⟨J,f⟩:∃ J,J=cF x p:=⟨_,rfl⟩;have D:=zH f;rw[<-f]at V;clear f;go_enter func157,ntmps157;go_wp2_with fail;refine (gU x p C _ _ G.o (by have h:=Q.o;unfold aF at *;rw[I.o]at *;exact h)).mono ?_;rintro e w1 ⟨rfl,m,rfl⟩;rw[<-D.o];go_wp2_with fail;refine (pg x p C _ (by exact G.o) (by omega) B O).mono ?_;rintro e w2 ⟨Z,rfl,N,a⟩;have X:x % p<4294967296:=by have:=Nat.mod_lt x B;omega
 generalize z:x % p=r at*;have T:=zH z;have S:=zH N;have k:=zH a;clear z N a;go_wp2_with fail;refine (CY r _ (by omega)).mono ?_;rintro e w3 ⟨v3,rfl,F,l⟩
 go_wp2
 go_ret2
 exact⟨_,_,rfl,Sl.to S.o l,F,fE (k.o.trans (l.mono k.o.size))⟩
theorem C9 (a:List Nat) (i n:Nat):a.take i++(a.drop i).take (n+1)++a.drop (i+n+1)=a:=by
 rw[show i+n+1=i+(n+1) from by omega,<-List.drop_drop,zJ,List.take_append_drop,List.take_append_drop]
theorem kq {B g:Nat} {a w w':World} (h:Below B a w) (d:w.grownBy w' (some g)) (c:B<=w.heap.size) (e:B<=g):Below B a w':=
 h.grown d c (fun k b=>by injection b with b;omega)
theorem qR (x y:Nat) (va vb:Value) (w:World) (ha:aF w va x) (hb:aF w vb y) (hx:(aj ai x).length<=50000) (h:y<=x) (n:Nat) (I:(aj ai y).length=n) (j5:2<=n):
 Calls prog 157 #[va,vb] w (oN w (x / y) (x % y)):=by
 have HA:=zH ha;have HB:=zH hb;have hc:0<=cF x y:=kj.2 h;have l5:n<=(aj ai x).length:=by rw[<-I];exact bT aI h
 obtain⟨Q,D⟩:∃ Q,(aj ai y).getD (n-1) 0=Q:=⟨_,rfl⟩;have l7:Q<4294967296:=by rw[<-D];exact (bg aI y).getD (by decide) _
 obtain⟨bl,a5⟩:∃ bl,Lib.bitLen Q=bl:=⟨_,rfl⟩;obtain⟨n1,n2,n3,n4,n5⟩:=uh (by omega) I D a5;obtain⟨A,c,rfl,i2,j3,b2⟩:=hb;obtain⟨A0,c0,rfl,k9,j2,j7⟩:=ha;rw[I]at b2 i2 ⊢;have f0:=dC (n:=x) aI;generalize e0:(aj ai x).length=a at*;obtain⟨b,o,p,rfl,k7,e5,l0⟩:=b2.at_ (i:=n-1) (by omega);obtain rfl:p=Q:=by rw[<-e5,D]
 have e1:(Lib.bitLen ((p:Int)).toNat:Int)=(bl:Int):=by rw[Int.toNat_natCast,a5]
 obtain⟨s,hs⟩:∃ s,s=32-bl:=⟨_,rfl⟩;rw[<-hs]at n3 n4;have e8:(32:Int)-(bl:Int)=(s:Int):=by omega
 have l6:s<32:=by omega
 obtain⟨cm,a7⟩:∃ cm,cm=cF x y:=⟨_,rfl⟩;have g0:=zH a7;rw[<-a7]at hc;have HN:Yd ((aj ai (y*2 ^ s)).length=n/\2147483648<=(aj ai (y*2 ^ s)).getD (n-1) 0/\ai ^ (n-1)<=y):=⟨n3,n4,n5⟩;have c5:=zH (zW e1 e8);have d0:=zH f0;have b6:Yd (aF w (.slice (some ⟨b,o,none⟩) n c) y):=by
  have h:=HB.o;unfold aF at*;rw[I]at h;exact h
 have b5:Yd (aF w (.slice A0 a c0) x):=HA.o;have g4:=zH e0;have g1:=zH I;have k6:((n:Int)==1)=false:=zL (by omega);unfold maxLen at j3 j2;clear a7 e0 I D a5 e5 f0 n3 n4 n5 b2 j7 e1 e8 hs n1 n2;go_enter func157,ntmps157;go_wp2_with fail;refine (gU x y _ _ _ b5.o b6.o).mono ?_;rintro e Z ⟨rfl,m,rfl⟩;rw[<-g0.o];go_wp2_with fail;refine (bits_LeadingZeros32 (p:Int) _ (by omega) (by omega)).mono ?_;rintro e Z ⟨rfl,rfl⟩;rw[c5.o.1,c5.o.2];go_wp2_with fail;refine (vD y s _ _ (by exact b6.o) (by rw[g1.o];omega) (by omega)).mono ?_;rintro e Z ⟨vv,rfl,k0,L⟩;have C:=fE L;have S:=zH C;obtain⟨Av,cv,rfl,i3,j4,b3⟩:=k0;rw[HN.o.1]at b3 i3 ⊢;have h7:=zH b3;clear b3 L C;obtain⟨i0,d5,f1,f2,f3⟩:=info_parts ic;have HI:=zH d5;have d1:=zH f1;have d2:=zH f2;have d3:=zH f3;clear d5 f1 f2 f3;obtain⟨f,F⟩:∃ f,f=Z.heap.size:=⟨_,rfl⟩;have k3:=zH F
 go_wp2_with (at_make;refine wpList_make_full _ rfl _ _ 22 rfl w.heap.size 82 i0 (.int .u32 0) 1 underlying22 HI.o d1.o d2.o .i64 .i64 _ _ (a+1) rfl rfl (by omega) (by omega) (by rw[d3.o];omega) (by unfold maxLen;omega) S.o.size ?_;intro w2 r a8)
 rw[<-F]at r ⊢;have c6:=zH (cL.made r);have z:=zH (S.o.grown a8 S.o.size (by simp));have f6:Yd (Below f Z w2):=(Below.refl f Z).grown a8 (by rw[F];exact zN _) (by simp);have c2:Yd (w.heap.size<=f):=by rw[F];exact S.o.size
 have h8:Yd (Rd .u32 Z f Av n (aj ai (y*2 ^ s))):=by rw[F];exact h7.o
 have c1:Yd (f<w2.heap.size):=c6.o.lt.2;clear r a8 F;refine (vD x s _ _ (b5.o.to z.o) (by rw[g4.o];omega) (by omega)).mono ?_;rintro e w3 ⟨v3,rfl,⟨A3,c3,rfl,k8,j1,e7⟩,a3⟩;have i4:(aj ai (x*2 ^ s)).length<=a+1:=by
  refine bC aI ?_;have h2:(2:Nat) ^ s<=ai:=by rw[show ai=2 ^ 32 from rfl];exact Nat.pow_le_pow_right (by omega) (by omega)
  have h3:=Nat.mul_lt_mul_of_pos_right d0.o (Nat.pow_pos (n:=s) (show 0<2 by omega));have h4:ai ^ a*2 ^ s<=ai ^ (a+1):=by rw[Nat.pow_succ];exact Nat.mul_le_mul_left _ h2
  omega
 generalize d7:(aj ai (x*2 ^ s)).length=l3 at*;have g3:=zH d7;have h6:=zH e7;have T:=zH a3;have g8:Yd (cL .u32 82 w3 w.heap.size f (a+1) (a+1) (List.replicate (a+1) 0)):=c6.o.to a3;clear d7 e7 a3;unfold maxLen at j1 j4
 go_wp2_with (first
  |((with_reducible refine kL rfl (.tmp 48) (.tmp 51) 22 22 rfl 82 underlying22 AD .u32 82 w.heap.size f (a+1) (List.replicate (a+1) 0) (aj ai (x*2 ^ s)) A3 l3 c3 rfl rfl g8.o h6.o i4 ?_);intro w4 l J)
  |(at_make;refine wpList_make_full _ rfl _ _ 22 rfl w.heap.size 82 i0 (.int .u32 0) 1 underlying22 HI.o d1.o d2.o .i64 .i64 _ _ (a+1-n) rfl rfl (by omega) (by omega) (by rw[d3.o];omega) (by unfold maxLen;omega) (zC z.o.size (zC T.o.size J.size)) ?_;intro w5 v X))
 obtain⟨W,N⟩:∃ W,W=w4.heap.size:=⟨_,rfl⟩;rw[<-N]at v ⊢;obtain⟨q,P⟩:∃ q,q=aj ai (x*2 ^ s)++List.drop l3 (List.replicate (a+1) 0):=⟨_,rfl⟩;rw[<-P]at l;have c8:Yd (val ai q=x*2 ^ s/\Ok ai q/\q.length=a+1):=by
  subst P;refine⟨?_,(bg aI _).append ((bR (by decide)).drop _),?_⟩
  ·rw[List.drop_replicate,ke,aR aI]
  ·rw[zE,List.length_drop,List.length_replicate,g3.o];omega
 have c7:=zH (cL.made v);have a0:Yd (zZ w w4):=((z.o.trans (T.o.mono z.o.size)).trans (J.mono c2.o));have f7:Yd (Below f Z w4):=(f6.o.trans (T.o.mono (Nat.le_of_lt c1.o))).trans J;have f4:Yd (zZ w w5):=a0.o.grown X a0.o.size (by simp);have B:Yd (f<W):=by rw[N];exact zD c1.o (zC T.o.size J.size)
 have f8:Yd (Below f Z w5):=f7.o.grown X (by rw[<-N];exact Nat.le_of_lt B.o) (by simp);have h9:Yd (cL .u32 82 w5 w.heap.size f (a+1) (a+1) q):=l.block (X.block f l.lt.2 (by simp));have i1:Yd (w.heap.size<=W):=by rw[N];exact a0.o.size
 clear l v X J N P;obtain⟨E,Y⟩:∃ E,E=a+1-n:=⟨_,rfl⟩;rw[<-Y]at c7 ⊢;have k5:=zH Y;have e2:E+n=a+1:=by omega
 have V:Yd (0<y*2 ^ s/\y*2 ^ s<=ai ^ n/\0<y):=by
  have I:=dC (n:=y*2 ^ s) aI;rw[HN.o.1]at I;have h2:0<y:=zD (Nat.pow_pos (by decide)) HN.o.2.2;exact⟨Nat.mul_pos h2 (Nat.pow_pos (by omega)),Nat.le_of_lt I,h2⟩
 have g2:Yd (iX (x*2 ^ s) (y*2 ^ s) q (List.replicate E 0) E):=by
  rw[Y];exact wj d0.o HN.o.2.2 (by omega) (by omega) (Nat.pow_pos (by omega)) c8.o.1
 clear Y;have k4:=zH e2;have l2:E+n<=a+1:=by omega
 have l4:a+1<=E+n:=by omega
 clear e2
 go_loopg [12] (E+1) (fun g si wr=>∃ (j:Nat) (d qs:List Nat),g=j+1/\j<=E/\si=.int .i64 ((j:Int)-1)/\Yd (cL .u32 82 wr w.heap.size f (a+1) (a+1) d)/\Yd (cL .u32 82 wr w.heap.size W E E qs)/\Yd (Ok ai d/\Ok ai qs)/\Yd (iX (x*2 ^ s) (y*2 ^ s) d qs j)/\Yd (zZ w wr)/\Yd (Below f Z wr))
 case atStart=>exact⟨E,q,_,rfl,zN _,rfl,h9.o,c7.o,⟨c8.o.2.1,bR (by decide)⟩,g2.o,f4.o,f8.o⟩
 case round=>
  obtain⟨j,d,qs,rfl,hj,rfl,HU,HQ,k,a1,U,b7⟩:=hrel;by_cases h0:0<j
  ·obtain⟨i,rfl⟩:∃ i,j=i+1:=⟨j-1,by omega⟩;have d6:((i+1:Nat):Int)-1=(i:Int):=by omega
   rw[d6];clear d6;have e9:d.length=a+1:=HU.o.1;have a6:((d.drop i).take (n+1)).length=n+1:=by rw[List.length_take,List.length_drop];omega
   have M:=uT a1.o k.o.1 V.o.2.1 (by omega:i+n+1<=d.length);have c4:Yd (KD ((d.drop i).take (n+1)) (aj ai (y*2 ^ s)) n _ _ _ _):=⟨a6,HN.o.1,(k.o.1.drop _).take _,bg aI _,j5,rfl,rfl,rfl,rfl,HN.o.2.1,by rw[aR aI,M.1];exact M.2.1⟩;have k1:=zH a6;have c9:=zH e9;clear a6 M e9;go_wp2_with fail;rw[show i+n+1-i=n+1 from by omega];refine (wg (d.take i) ((d.drop i).take (n+1)) (d.drop (i+n+1)) (aj ai (y*2 ^ s)) f w.heap.size (a+1) (a+1) i n (a+1-i) cv Av wr (by rw[C9];exact HU.o) (by rw[List.length_take,c9.o];omega) (h8.o.below b7.o) _ _ _ _ c4.o (by omega) (by omega) (by omega)).mono ?_;rintro e w6 ⟨G,rfl,O,d8,e4,b4,a9⟩;rw[aR aI]at b4 ⊢;have a2:Yd (cL .u32 82 w6 w.heap.size W E E qs):=HQ.o.block (a9.block W HQ.o.lt.2 (fun e=>by injection e with e;have:=B.o;omega));have j6:val ai ((d.drop i).take (n+1)) / (y*2 ^ s)<4294967296:=by have:=c4.o.div_lt;rw[aR aI]at this;exact this
   generalize e6:val ai ((d.drop i).take (n+1)) / (y*2 ^ s)=qd at*;have h5:=zH e6;have H6:Yd (cL .u32 82 w6 w.heap.size f (a+1) (a+1) (d.take i++G++d.drop (i+n+1))/\G.length=n+1/\Ok ai G/\val ai G=val ai ((d.drop i).take (n+1)) % (y*2 ^ s)/\wr.grownBy w6 (some f)):=⟨O,d8,e4,b4,a9⟩;obtain⟨yq,l8⟩:∃ yq:Nat,w6.cell? ⟨W,i,none⟩=some (.int .u32 (yq:Int)):=⟨_,a2.o.cell (by omega)⟩;have l1:=a2.o.frozen i;clear O d8 e4 b4 a9 e6
   go_wp2
   go_roundg (i+1)
   case measure=>omega
   case rel=>
    obtain⟨o1,o2,o3,o4,o5⟩:=H6.o;refine⟨i,d.take i++G++d.drop (i+n+1),qs.set i qd,rfl,by omega,rfl,o1.far (by show f≠W;have:=B.o;omega) _,a2.o.stored _ _,⟨((k.o.1.take _).append o3).append (k.o.1.drop _),k.o.2.set j6⟩,?_,(kq U.o o5 U.o.size c2.o).setCell i1.o _,(kq b7.o o5 (Nat.le_of_lt HU.o.lt.2) zA).setCell (Nat.le_of_lt B.o) _⟩;have hs:=yP (cur':=G) a1.o k.o.1 V.o.1 V.o.2.1 (by rw[c9.o];omega) (by rw[HQ.o.1];omega) o2 o4;rw[h5.o]at hs;exact hs
  ·obtain rfl:j=0:=by omega
   clear h0 hj;have d4:=Bn V.o.2.2 a1.o;have b8:=zH d4;clear d4;go_wp2_with fail;refine (kV d _ _ HU.o.sl k.o.1).mono ?_;rintro e w7 ⟨v7,rfl,e3,rfl⟩;have j0:(aj ai (val ai d)).length<=100000:=by
    have I:=gM k.o.1;rw[HU.o.1]at I;have:=bC aI I;omega
   have g5:=zH e3;clear e3;go_wp2_with fail;refine (Cm (val ai d) s _ _ g5.o j0 (by omega)).mono ?_;rintro e w8 ⟨v8,rfl,b0,a4⟩;rw[b8.o.2]at b0;have g6:=zH b0;have f5:=zH a4;have g9:=zH (HQ.o.to a4);clear b0 a4;go_wp2_with fail;refine (kV qs _ _ g9.o.sl k.o.2).mono ?_;rintro e w9 ⟨v9,rfl,b1,rfl⟩;rw[b8.o.1]at b1;have g7:=zH b1;clear b1
   go_wp2
   go_ret2
   exact⟨_,_,rfl,g7.o,g6.o,U.o.trans (f5.o.mono U.o.size)⟩
theorem tw (x y:Nat) (a b:Value) (w:World) (d:aF w a x) (e:aF w b y) (f:(aj ai x).length<=50000) (j:0<y):
 Calls prog 157 #[a,b] w (oN w (x / y) (x % y)):=by
 rcases Nat.lt_or_ge x y with h|h
 ·exact oY x y a b w d e f h
 ·have k:1<=(aj ai y).length:=by
   rcases Nat.eq_zero_or_pos (aj ai y).length with c|c
   ·exact absurd ((dc aI).1 (zF c)) (by omega)
   ·exact c
  by_cases i:(aj ai y).length=1
  ·exact tC x y a b w d e f j h i
  ·exact qR x y a b w d e f h _ rfl (by omega)
theorem aF.to {w w':World} {v:Value} {x:Nat} (h:aF w v x) (a:zZ w w'):aF w' v x:=Sl.to h a
theorem yW (p q:Nat):Nat.gcd q (p % q)=Nat.gcd p q:=by
 rw[Nat.gcd_comm q (p % q),<-Nat.gcd_rec,Nat.gcd_comm]
def Dl (w:World) (x:Nat) (e:Ending) (w':World):Prop:=∃ v,e=.returned v/\aF w' v x/\zZ w w'
theorem uZ (x y:Nat) (L M:Value) (w:World) (F:aF w L x) (G:aF w M y) (T:(aj ai x).length<=50000) (U:(aj ai y).length<=50000):
 Calls prog 133 #[L,M] w (Dl w (Nat.gcd x y)):=by
 have N:=zH F;have O:=zH G;clear F G;go_enter func133,ntmps133
 go_wp2
 go_loopg [0,1,5,6] y (fun gk V W Z s6 wr=>∃ p:Nat,Yd (aF wr V p)/\Yd (aF wr W gk)/\Yd (Nat.gcd p gk=Nat.gcd x y)/\Yd (zZ w wr)/\(aj ai p).length<=50000/\(aj ai gk).length<=50000)
 case atStart=>exact⟨x,N.o,O.o,rfl,Below.refl _ _,T,U⟩
 case round=>
  obtain⟨p,D,n,C,b,S,J⟩:=hrel;by_cases E:gk=0
  ·subst E;obtain⟨A,c,a,r,Q,v⟩:=n.o;rw[bd]at a;subst a;clear v r
   go_wp2_with (go_at_call 49;refine (dt (aj ai p) _ _ D.o (by omega)).mono ?_;rintro e Y ⟨X,rfl,k,i⟩)
   go_ret;have I:=C.o;rw[Nat.gcd_zero_right]at I;exact⟨_,rfl,by rw[<-I];exact k.sl,b.o.trans (i.mono b.o.size)⟩
  ·obtain⟨A,c,a,r,Q,v⟩:=n.o;have P:0<(aj ai gk).length:=by
    rcases Nat.eq_zero_or_pos (aj ai gk).length with q|q
    ·exact absurd ((dc aI).1 (zF q)) E
    ·exact q
   generalize j:(aj ai gk).length=l at a P J;subst a;have f:=zH j;clear j v r;go_wp2_with fail;refine (tw p gk _ _ _ D.o n.o S (by omega)).mono ?_;rintro e Y ⟨X,u2,rfl,z,m,h⟩;have o:=zH m;have d:=zH h;clear z m h
   go_wp2
   go_roundg (p % gk)
   case measure=>exact Nat.mod_lt _ (by omega)
   case rel=>
    refine⟨gk,n.o.to d.o,o.o,(yW p gk).trans C.o,b.o.trans (d.o.mono b.o.size),by rw[f.o];exact J,?_⟩;have:=bT (B:=ai) aI (Nat.le_of_lt (Nat.mod_lt p (show 0<gk by omega)));rw[f.o]at this;omega
theorem vX (neg:Bool) (xs f:List Nat) (j k:Value) (w:World) (l:Sl .u32 w j xs) (o:Sl .u32 w k f) (i:128<xs.length\/128<f.length):
 Calls prog 92 #[.agg #[.bool neg,j,k]] w fun e w'=>e=.returned (.int .i64 3)/\zZ w w':=by
 obtain⟨A,v,rfl,p,a,c⟩:=l;obtain⟨r,x,rfl,q,b,d⟩:=o;unfold maxLen at a b;generalize xs.length=n at*;generalize f.length=m at*;clear c d;by_cases h:128<n
 ·clear i;go_enter func92,ntmps92
  go_wp2
  go_ret;exact⟨rfl,zB.alloc zA _⟩
 ·have y:128<m:=by omega
  have z:n<=128:=by omega
  clear i h;go_enter func92,ntmps92
  go_wp2
  go_ret;exact⟨rfl,zB.alloc zA _⟩
theorem tm (neg:Bool) (xs b:List Nat) (y z:Value) (w:World) (v:Sl .u32 w y xs) (x:Sl .u32 w z b) (G:xs.length<=128) (I:b.length<=128) (k:bm xs=true\/bm b=true\/b.length=0):
 Calls prog 92 #[.agg #[.bool neg,y,z]] w fun e w'=>e=.returned (.int .i64 2)/\zZ w w':=by
 have j:=zH v;have r:=zH x;obtain⟨A,E,rfl,B,l,p⟩:=v;obtain⟨D,F,rfl,C,o,q⟩:=x;clear p q;unfold maxLen at l o;generalize xs.length=n at*;generalize b.length=m at*;by_cases a:bm xs=true
 ·have f:=zH a;clear k a;go_enter func92,ntmps92;go_wp2_with fail;refine (bz xs _ _ (by exact j.o.to (zB.alloc zA _))).mono ?_;rintro e i ⟨rfl,rfl⟩;rw[f.o]
  go_wp2
  go_ret;exact⟨rfl,zB.alloc zA _⟩
 ·have f:Yd (bm xs=false):=by unfold Yd;simpa using a
  have d:bm b=true\/m=0:=by rcases k with h|h;exact absurd h a;exact h
  clear k a;by_cases a:bm b=true
  ·have c:=zH a;clear d a;go_enter func92,ntmps92;go_wp2_with fail;refine (bz xs _ _ (by exact j.o.to (zB.alloc zA _))).mono ?_;rintro e i ⟨rfl,rfl⟩;rw[f.o];go_wp2_with fail;refine (bz b _ _ (by exact r.o.to (zB.alloc zA _))).mono ?_;rintro e i ⟨rfl,rfl⟩;rw[c.o]
   go_wp2
   go_ret;exact⟨rfl,zB.alloc zA _⟩
  ·have c:Yd (bm b=false):=by unfold Yd;simpa using a
   obtain rfl:m=0:=by rcases d with h|h;exact absurd h a;exact h
   clear d a;go_enter func92,ntmps92;go_wp2_with fail;refine (bz xs _ _ (by exact j.o.to (zB.alloc zA _))).mono ?_;rintro e i ⟨rfl,rfl⟩;rw[f.o];go_wp2_with fail;refine (bz b _ _ (by exact r.o.to (zB.alloc zA _))).mono ?_;rintro e i ⟨rfl,rfl⟩;rw[c.o]
   go_wp2
   go_ret;exact⟨rfl,zB.alloc zA _⟩
def bD (neg:Bool) (x y:Nat):Int:=if x=0 then (if neg=false/\y=1 then 0 else 2) else if y=1\/x=1\/Nat.gcd x y=1 then 0 else 2
theorem tp (neg:Bool) (x y:Nat) (J L:Value) (w:World) (D:aF w J x) (F:aF w L y) (T:(aj ai x).length<=128) (U:(aj ai y).length<=128) (V:0<(aj ai y).length) (C:0<(aj ai x).length↔0<x) (c:x=0) (i:bm (aj ai x)=false) (j:bm (aj ai y)=false):
 Calls prog 92 #[.agg #[.bool neg,J,L]] w fun e w'=>e=.returned (.int .i64 (bD neg x y))/\zZ w w':=by
 have z:=zH D;have B:=zH F;obtain⟨A,N,rfl,P,p,r⟩:=D;obtain⟨M,O,rfl,Q,q,v⟩:=F;have l:=zH i;have f:=zH j;have X:=zH (zW T U);clear r v i j;unfold maxLen at p q;generalize I:(aj ai x).length=n at*;generalize G:(aj ai y).length=m at*;have W:=zH (zW I G);have S:((m:Int)==0)=false:=zL (by omega);clear I G;have h:∀ o:Obj,Yd (aF (w.alloc o) (.slice A n N) x):=fun o=>z.o.to (zB.alloc zA o);have a:∀ o:Obj,Yd (aF (w.alloc o) (.slice M m O) y):=fun o=>B.o.to (zB.alloc zA o);clear z B
 ·obtain rfl:n=0:=by omega
  cases neg with
  |true=>
   have E:Yd (bD true x y=2):=by unfold Yd bD;rw[if_pos c,if_neg (by simp)]
   clear C c;go_enter func92,ntmps92;go_wp2_with fail;refine (bz (aj ai x) _ _ (by exact (h _).out)).mono ?_;rintro e d ⟨rfl,rfl⟩;rw[l.o];go_wp2_with fail;refine (bz (aj ai y) _ _ (by exact (a _).out)).mono ?_;rintro e d ⟨rfl,rfl⟩;rw[f.o]
   go_wp2
   go_ret;rw[E.o];exact⟨rfl,zB.alloc zA _⟩
  |false=>
   have E:Yd (bD false x y=if y=1 then 0 else 2):=by unfold Yd bD;rw[if_pos c];simp
   clear C c;by_cases b:y=1
   ·have k:=zH (fY b);rw[if_pos b]at E;clear b;go_enter func92,ntmps92;go_wp2_with fail;refine (bz (aj ai x) _ _ (by exact (h _).out)).mono ?_;rintro e d ⟨rfl,rfl⟩;rw[l.o];go_wp2_with fail;refine (bz (aj ai y) _ _ (by exact (a _).out)).mono ?_;rintro e d ⟨rfl,rfl⟩;rw[f.o];go_wp2_with fail;refine (cg y _ _ (by exact (a _).out)).mono ?_;rintro e d ⟨rfl,rfl⟩;rw[k.o];go_wp2_with fail;refine (cg y _ _ (by exact (a _).out)).mono ?_;rintro e d ⟨rfl,rfl⟩;rw[k.o]
    go_wp2
    go_ret;rw[E.o];exact⟨rfl,zB.alloc zA _⟩
   ·have k:=zH (dV b);rw[if_neg b]at E;clear b;go_enter func92,ntmps92;go_wp2_with fail;refine (bz (aj ai x) _ _ (by exact (h _).out)).mono ?_;rintro e d ⟨rfl,rfl⟩;rw[l.o];go_wp2_with fail;refine (bz (aj ai y) _ _ (by exact (a _).out)).mono ?_;rintro e d ⟨rfl,rfl⟩;rw[f.o];go_wp2_with fail;refine (cg y _ _ (by exact (a _).out)).mono ?_;rintro e d ⟨rfl,rfl⟩;rw[k.o]
    go_wp2
    go_ret;rw[E.o];exact⟨rfl,zB.alloc zA _⟩
theorem vY (neg:Bool) (x y:Nat) (V W:Value) (w:World) (Q:aF w V x) (S:aF w W y) (hx:(aj ai x).length<=128) (hy:(aj ai y).length<=128) (a4:0<(aj ai y).length) (h0:0<(aj ai x).length↔0<x) (N:0<x) (z:bm (aj ai x)=false) (B:bm (aj ai y)=false):
 Calls prog 92 #[.agg #[.bool neg,V,W]] w fun e w'=>e=.returned (.int .i64 (bD neg x y))/\zZ w w':=by
 have O:=zH Q;have P:=zH S;obtain⟨A,Y,rfl,a0,I,L⟩:=Q;obtain⟨X,Z,rfl,a1,J,M⟩:=S;have C:=zH z;have k:=zH B;have F:=zH (zW hx hy);clear L M z B;unfold maxLen at I J;generalize U:(aj ai x).length=n at*;generalize T:(aj ai y).length=m at*;have D:=zH (zW U T);have a2:((m:Int)==0)=false:=zL (by omega);clear U T;have b:∀ o:Obj,Yd (aF (w.alloc o) (.slice A n Y) x):=fun o=>O.o.to (zB.alloc zA o);have a:∀ o:Obj,Yd (aF (w.alloc o) (.slice X m Z) y):=fun o=>P.o.to (zB.alloc zA o);clear O P;have a3:((n:Int)==0)=false:=zL (by omega);have p:Yd (x≠0):=by unfold Yd;omega
 clear h0 N;by_cases c:y=1
 ·have v:=zH (fY c);have E:Yd (bD neg x y=0):=by unfold Yd bD;rw[if_neg p.o,if_pos (.inl c)]
  clear c;go_enter func92,ntmps92;go_wp2_with fail;refine (bz (aj ai x) _ _ (by exact (b _).out)).mono ?_;rintro e d ⟨rfl,rfl⟩;rw[C.o];go_wp2_with fail;refine (bz (aj ai y) _ _ (by exact (a _).out)).mono ?_;rintro e d ⟨rfl,rfl⟩;rw[k.o];go_wp2_with fail;refine (cg y _ _ (by exact (a _).out)).mono ?_;rintro e d ⟨rfl,rfl⟩;rw[v.o]
  go_wp2
  go_ret;rw[E.o];exact⟨rfl,zB.alloc zA _⟩
 ·have v:=zH (dV c);by_cases f:x=1
  ·have l:=zH (fY f);have E:Yd (bD neg x y=0):=by unfold Yd bD;rw[if_neg p.o,if_pos (.inr (.inl f))]
   clear c f;go_enter func92,ntmps92;go_wp2_with fail;refine (bz (aj ai x) _ _ (by exact (b _).out)).mono ?_;rintro e d ⟨rfl,rfl⟩;rw[C.o];go_wp2_with fail;refine (bz (aj ai y) _ _ (by exact (a _).out)).mono ?_;rintro e d ⟨rfl,rfl⟩;rw[k.o];go_wp2_with fail;refine (cg y _ _ (by exact (a _).out)).mono ?_;rintro e d ⟨rfl,rfl⟩;rw[v.o];go_wp2_with fail;refine (cg x _ _ (by exact (b _).out)).mono ?_;rintro e d ⟨rfl,rfl⟩;rw[l.o]
   go_wp2
   go_ret;rw[E.o];exact⟨rfl,zB.alloc zA _⟩
  ·have l:=zH (dV f);by_cases q:Nat.gcd x y=1
   ·have G:=zH (fY q);have E:Yd (bD neg x y=0):=by unfold Yd bD;rw[if_neg p.o,if_pos (.inr (.inr q))]
    clear c f q;go_enter func92,ntmps92;go_wp2_with fail;refine (bz (aj ai x) _ _ (by exact (b _).out)).mono ?_;rintro e d ⟨rfl,rfl⟩;rw[C.o];go_wp2_with fail;refine (bz (aj ai y) _ _ (by exact (a _).out)).mono ?_;rintro e d ⟨rfl,rfl⟩;rw[k.o];go_wp2_with fail;refine (cg y _ _ (by exact (a _).out)).mono ?_;rintro e d ⟨rfl,rfl⟩;rw[v.o];go_wp2_with fail;refine (cg x _ _ (by exact (b _).out)).mono ?_;rintro e d ⟨rfl,rfl⟩;rw[l.o];go_wp2_with fail;refine (uZ x y _ _ _ (by exact (b _).out) (by exact (a _).out) (by rw[D.o.1];exact zC F.o.1 (by omega)) (by rw[D.o.2];exact zC F.o.2 (by omega))).mono ?_;rintro e w2 ⟨v2,rfl,j,i⟩;have r:=zH (zW j i);clear j i;go_wp2_with fail;refine (cg (Nat.gcd x y) _ _ r.o.1).mono ?_;rintro e d ⟨rfl,rfl⟩;rw[G.o]
    go_wp2
    go_ret;rw[E.o];exact⟨rfl,(zB.alloc zA _).trans (r.o.2.mono (by simp))⟩
   ·have G:=zH (dV q);have E:Yd (bD neg x y=2):=by unfold Yd bD;rw[if_neg p.o,if_neg (by rintro (h|h|h);exact c h;exact f h;exact q h)]
    clear c f q;go_enter func92,ntmps92;go_wp2_with fail;refine (bz (aj ai x) _ _ (by exact (b _).out)).mono ?_;rintro e d ⟨rfl,rfl⟩;rw[C.o];go_wp2_with fail;refine (bz (aj ai y) _ _ (by exact (a _).out)).mono ?_;rintro e d ⟨rfl,rfl⟩;rw[k.o];go_wp2_with fail;refine (cg y _ _ (by exact (a _).out)).mono ?_;rintro e d ⟨rfl,rfl⟩;rw[v.o];go_wp2_with fail;refine (cg x _ _ (by exact (b _).out)).mono ?_;rintro e d ⟨rfl,rfl⟩;rw[l.o];go_wp2_with fail;refine (uZ x y _ _ _ (by exact (b _).out) (by exact (a _).out) (by rw[D.o.1];exact zC F.o.1 (by omega)) (by rw[D.o.2];exact zC F.o.2 (by omega))).mono ?_;rintro e w2 ⟨v2,rfl,j,i⟩;have r:=zH (zW j i);clear j i;go_wp2_with fail;refine (cg (Nat.gcd x y) _ _ r.o.1).mono ?_;rintro e d ⟨rfl,rfl⟩;rw[G.o]
    go_wp2
    go_ret;rw[E.o];exact⟨rfl,(zB.alloc zA _).trans (r.o.2.mono (by simp))⟩
def fH (neg:Bool) (xs ys:List Nat):Int:=
 if 128<xs.length\/128<ys.length then 3 else if bm xs=true\/bm ys=true\/ys.length=0 then 2 else bD neg (val ai xs) (val ai ys)
theorem top_of_last {xs:List Nat} (h:bm xs=false):mO xs:=by
 intro a;have c:¬(0<xs.length/\xs.getD (xs.length-1) 0=0):=of_decide_eq_false h
 apply c
 rw[List.getLast?_eq_getElem?]at a;constructor
 ·rcases Nat.eq_zero_or_pos xs.length with b|b
  ·rw[List.getElem?_eq_none (by omega)]at a;exact absurd a (by simp)
  ·exact b
 ·rw[List.getD_eq_getElem?_getD,a];rfl
theorem eG (neg:Bool) (xs a:List Nat) (f i:Value) (w:World) (p:Sl .u32 w f xs) (q:Sl .u32 w i a) (r:Ok ai xs) (v:Ok ai a):
 Calls prog 92 #[.agg #[.bool neg,f,i]] w fun e w'=>e=.returned (.int .i64 (fH neg xs a))/\zZ w w':=by
 unfold fH;by_cases o:128<xs.length\/128<a.length
 ·rw[if_pos o];exact vX neg xs a f i w p q o
 rw[if_neg o];by_cases j:bm xs=true\/bm a=true\/a.length=0
 ·rw[if_pos j];exact tm neg xs a f i w p q (by omega) (by omega) j
 rw[if_neg j];have c:bm xs=false:=by cases h:bm xs with|false=>rfl|true=>exact absurd (.inl h) j
 have d:bm a=false:=by cases h:bm a with|false=>rfl|true=>exact absurd (.inr (.inl h)) j
 have m:0<a.length:=Nat.pos_of_ne_zero fun h=>j (.inr (.inr h));have k:=gx aI r (top_of_last c) rfl;have b:=gx aI v (top_of_last d) rfl;have y:0<(aj ai (val ai xs)).length↔0<val ai xs:=by
  have z:=dc (B:=ai) (n:=val ai xs) aI;constructor
  ·intro h;rcases Nat.eq_zero_or_pos (val ai xs) with l|l
   ·rw[z.2 l]at h;exact absurd h (by simp)
   ·exact l
  ·intro h;exact List.length_pos_iff.2 fun l=>by have:=z.1 l;omega
 have A:aF w f (val ai xs):=by unfold aF;rw[k];exact p
 have C:aF w i (val ai a):=by unfold aF;rw[b];exact q
 rcases Nat.eq_zero_or_pos (val ai xs) with x|x
 ·exact tp neg _ _ f i w A C (by rw[k];omega) (by rw[b];omega) (by rw[b];exact m) y x (by rw[k];exact c) (by rw[b];exact d)
 ·exact vY neg _ _ f i w A C (by rw[k];omega) (by rw[b];omega) (by rw[b];exact m) y x (by rw[k];exact c) (by rw[b];exact d)
end Go.Proofs.YtlhojoefhannnaaGreat
namespace Go.Proofs.YtlhojoefhannnaaGreat
open Go.Proofs.Tryz Go.RowKit NumB
def ah (w:World) (g:Nat) (t:TypeId) (cs:Array Value):Prop:=w.heap[g]?=some (.cells cs t (0,0))
section
variable {w w':World} {g:Nat} {t:TypeId} {cs:Array Value}
theorem ah.lt (h:ah w g t cs):g<w.heap.size:=by
 rcases Nat.lt_or_ge g w.heap.size with b|a
 ·exact b
 ·unfold ah at h;rw[Array.getElem?_eq_none a]at h;cases h
theorem ah.cell (h:ah w g t cs) (i:Nat):w.cell? ⟨g,i,none⟩=cs[i]?:=cell_of_row w g i cs t (0,0) h
theorem ah.frozen (h:ah w g t cs) (i:Nat):w.frozen? ⟨g,i,none⟩=false:=by
 unfold ah at h;simp[World.frozen?,h]
theorem ah.s7 {a b c d e f i:Value} (h:ah w g t #[a,b,c,d,e,f,i]):w.cell? ⟨g,0,none⟩=some a/\w.cell? ⟨g,1,none⟩=some b/\w.cell? ⟨g,2,none⟩=some c/\w.cell? ⟨g,3,none⟩=some d/\w.cell? ⟨g,4,none⟩=some e/\w.cell? ⟨g,5,none⟩=some f/\w.cell? ⟨g,6,none⟩=some i:=⟨h.cell 0,h.cell 1,h.cell 2,h.cell 3,h.cell 4,h.cell 5,h.cell 6⟩
theorem ah.z7 (h:ah w g t cs):w.frozen? ⟨g,0,none⟩=false/\w.frozen? ⟨g,1,none⟩=false/\w.frozen? ⟨g,2,none⟩=false/\w.frozen? ⟨g,3,none⟩=false/\w.frozen? ⟨g,4,none⟩=false/\w.frozen? ⟨g,5,none⟩=false/\w.frozen? ⟨g,6,none⟩=false:=⟨h.frozen 0,h.frozen 1,h.frozen 2,h.frozen 3,h.frozen 4,h.frozen 5,h.frozen 6⟩
theorem ah.new (w:World) (t:TypeId) (cs:Array Value):ah (w.alloc (.cells cs t)) w.heap.size t cs:=heap_alloc_new w _
theorem ah.alloc (h:ah w g t cs) (o:Obj):ah (w.alloc o) g t cs:=(Below.heap_alloc w o g h.lt).trans h
theorem ah.set_ (h:ah w g t cs) (i:Nat) (u:Value):ah (w.setCell ⟨g,i,none⟩ u) g t (cs.setIfInBounds i u):=by
 unfold ah at h ⊢;simp[World.setCell,Array.getElem?_modify,h]
theorem ah.far (h:ah w g t cs) {p:Addr} (a:g≠p.block) (u:Value):ah (w.setCell p u) g t cs:=(Below.heap_setCell w p u g a).trans h
theorem ah.to (h:ah w g t cs) (a:zZ w w'):ah w' g t cs:=(a.block g h.lt).trans h
theorem ah.drew (h:ah w g t cs):ah w.drew g t cs:=h
end
def xW (cs:Array Value):Prop:=∀ (i:Nat) (k:IntKind) (n:Int),cs[i]?≠some (Value.int k n)
theorem Sl.boxed {k:IntKind} {w w':World} {v:Value} {xs:List Nat} {g:Nat} {t:TypeId} {cs:Array Value} (h:Sl k w v xs) (z:ah w g t cs) (d:xW cs) (f:w.heap.size<=w'.heap.size) (C:∀ p:Addr,p.block≠g->w'.cell? p=w.cell? p):Sl k w' v xs:=by
 obtain⟨A,c,e,n,q,r,x⟩:=h;refine⟨A,c,e,n,q,r,fun l=>?_⟩;obtain⟨b,o,m,y,j⟩:=x l;have a:b≠g:=by
  rintro rfl;have:=j 0 l;rw[z.cell]at this;exact d _ _ _ this
 exact⟨b,o,m,zD y f,fun i B=>(C _ a).trans (j i B)⟩
theorem lR {neg:Bool} {A a:Option Addr} {n m c d:Nat}:xW #[.bool neg,.slice A n c,.slice a m d]:=by
 intro i k z h;rcases i with _|_|_|i<;>simp at h
def put3 (w:World) (g:Nat) (a b c:Value):World:=((w.setCell ⟨g,0,none⟩ a).setCell ⟨g,1,none⟩ b).setCell ⟨g,2,none⟩ c
theorem oz (w:World) (g:Nat) (a b c:Value):(put3 w g a b c).heap.size=w.heap.size:=by simp[put3,World.setCell]
theorem rQ (w:World) (g:Nat) (a b c:Value) (p:Addr) (h:p.block≠g):(put3 w g a b c).cell? p=w.cell? p:=by
 unfold put3;rw[World.cell?_setCell_other _ _ _ _ (by intro e;subst e;exact h rfl),World.cell?_setCell_other _ _ _ _ (by intro e;subst e;exact h rfl),World.cell?_setCell_other _ _ _ _ (by intro e;subst e;exact h rfl)]
theorem uj {e w:World} {B g:Nat} (h:Below B e w) (d:B<=g) (a b c:Value):Below B e (put3 w g a b c):=((h.setCell (p:=⟨g,0,none⟩) d a).setCell (p:=⟨g,1,none⟩) d b).setCell (p:=⟨g,2,none⟩) d c
theorem aF.put3 {w:World} {v:Value} {x g:Nat} {t:TypeId} {neg:Bool} {A d:Option Addr} {n m e f:Nat} (h:aF w v x) (i:ah w g t #[.bool neg,.slice A n e,.slice d m f]) (a b c:Value):aF (put3 w g a b c) v x:=
 Sl.boxed h i lR (Nat.le_of_eq (oz w g a b c).symm) (rQ w g a b c)
def Cw:Value:=.agg #[.bool false,.slice none 0 0,.slice none 0 0]
def mM (w:World) (v:Value) (neg:Bool) (x y:Nat):Prop:=∃ va vb,v=.agg #[.bool neg,va,vb]/\aF w va x/\aF w vb y
theorem mM.to {w w':World} {v:Value} {neg:Bool} {x y:Nat} (h:mM w v neg x y) (a:zZ w w'):mM w' v neg x y:=by
 obtain⟨d,f,e,b,c⟩:=h;exact⟨d,f,e,b.to a,c.to a⟩
theorem aF.form {w:World} {v:Value} {x:Nat} (h:aF w v x):∃ A n c,v=.slice A n c/\n=(aj ai x).length:=by
 obtain⟨A,c,e,_⟩:=h;exact⟨A,_,c,e,rfl⟩
theorem aF.len {w:World} {A:Option Addr} {n c x:Nat} (h:aF w (.slice A n c) x):n=(aj ai x).length:=by
 obtain⟨a,b,e,_⟩:=h
 injection e
theorem ae (w:World) (o:Obj):zZ w (w.alloc o):=zB.alloc zA _
theorem mM.form {w:World} {v:Value} {neg:Bool} {x y:Nat} (h:mM w v neg x y):∃ A n c a m d,v=.agg #[.bool neg,.slice A n c,.slice a m d]/\n=(aj ai x).length/\m=(aj ai y).length:=by
 obtain⟨j,k,rfl,f,i⟩:=h;obtain⟨A,n,c,rfl,b⟩:=f.form;obtain⟨a,m,d,rfl,e⟩:=i.form;exact⟨A,n,c,a,m,d,rfl,b,e⟩
theorem mM.parts {w:World} {a b:Value} {s neg:Bool} {x y:Nat} (h:mM w (.agg #[.bool s,a,b]) neg x y):s=neg/\aF w a x/\aF w b y:=by
 obtain⟨f,i,e,c,d⟩:=h;simp only[Value.agg.injEq,Array.mk.injEq,List.cons.injEq,Value.bool.injEq,and_true]at e;obtain⟨rfl,rfl,rfl⟩:=e;exact⟨rfl,c,d⟩
theorem mM.put3 {w:World} {v:Value} {neg s:Bool} {x y g:Nat} {t:TypeId} {A e:Option Addr} {n m f i:Nat} (h:mM w v neg x y) (d:ah w g t #[.bool s,.slice A n f,.slice e m i]) (a b c:Value):mM (put3 w g a b c) v neg x y:=by
 obtain⟨l,o,rfl,j,k⟩:=h;exact⟨l,o,rfl,j.put3 d a b c,k.put3 d a b c⟩
theorem BS {V a b P Q x y o c B s:Nat} (f:s=c+(x*y+o)) (e:P=Q*B) (h:V+P*c=a+Q*x*b) (W:Nat):
 (V+P*(s % W))+(P*W)*(s / W)=(a+P*o)+Q*x*(b+B*y):=by
 have i:=gF P W s;have j:P*s=P*c+(P*(x*y)+P*o):=by rw[f,Nat.mul_add,Nat.mul_add]
 have d:Q*x*(B*y)=P*(x*y):=by
  rw[e];simp only[Nat.mul_comm,Nat.mul_left_comm,Nat.mul_assoc]
 rw[Nat.mul_add (Q*x),d];omega
def CH (w:World) (g:Nat) (na nb:Bool) (A1 A2 A3 A4:Value):Prop:=
 w.cell? ⟨g,0,none⟩=some (.bool na)/\w.cell? ⟨g,1,none⟩=some A1/\w.cell? ⟨g,2,none⟩=some A2/\w.cell? ⟨g+1,0,none⟩=some (.bool nb)/\w.cell? ⟨g+1,1,none⟩=some A3/\w.cell? ⟨g+1,2,none⟩=some A4/\g+2<w.heap.size
theorem CH.to {w w':World} {g:Nat} {f i:Bool} {b c d e:Value} (h:CH w g f i b c d e) (a:zZ w w'):CH w' g f i b c d e:=by
 obtain⟨j,k,l,m,n,o,q⟩:=h;exact⟨(a.cell (p:=⟨g,0,none⟩) (by show g<_;omega)).trans j,(a.cell (p:=⟨g,1,none⟩) (by show g<_;omega)).trans k,(a.cell (p:=⟨g,2,none⟩) (by show g<_;omega)).trans l,(a.cell (p:=⟨g+1,0,none⟩) (by show g+1<_;omega)).trans m,(a.cell (p:=⟨g+1,1,none⟩) (by show g+1<_;omega)).trans n,(a.cell (p:=⟨g+1,2,none⟩) (by show g+1<_;omega)).trans o,zD q a.size⟩
theorem qF {neg:Bool} {xs a:List Nat} (l:Ok ai xs) (m:Ok ai a) (h:fH neg xs a=0):
 aj ai (val ai xs)=xs/\aj ai (val ai a)=a/\xs.length<=128/\a.length<=128/\0<val ai a/\Nat.gcd (val ai xs) (val ai a)=1/\(val ai xs=0->neg=false):=by
 unfold fH at h;by_cases k:128<xs.length\/128<a.length
 ·rw[if_pos k]at h;omega
 rw[if_neg k]at h;by_cases c:bm xs=true\/bm a=true\/a.length=0
 ·rw[if_pos c]at h;omega
 rw[if_neg c]at h;have f:bm xs=false:=by cases h:bm xs with|false=>rfl|true=>exact absurd (.inl h) c
 have d:bm a=false:=by cases h:bm a with|false=>rfl|true=>exact absurd (.inr (.inl h)) c
 have j:a≠[]:=by rintro rfl;exact c (.inr (.inr rfl))
 have i:=jC (B:=ai) (by decide) (top_of_last d) j;refine⟨lB aI l (top_of_last f),lB aI m (top_of_last d),by omega,by omega,i,?_,?_⟩
 ·unfold bD at h;by_cases e:val ai xs=0
  ·rw[if_pos e]at h;by_cases b:neg=false/\val ai a=1
   ·rw[e,b.2];rfl
   ·rw[if_neg b]at h;omega
  ·rw[if_neg e]at h;by_cases b:val ai a=1\/val ai xs=1\/Nat.gcd (val ai xs) (val ai a)=1
   ·rcases b with b|b|b
    ·rw[b,Nat.gcd_one_right]
    ·rw[b,Nat.gcd_one_left]
    ·exact b
   ·rw[if_neg b]at h;omega
 ·intro e;unfold bD at h;rw[if_pos e]at h;by_cases b:neg=false/\val ai a=1
  ·exact b.1
  ·rw[if_neg b]at h;omega
theorem b9 (neg:Bool) (xs a:List Nat):0<=fH neg xs a/\fH neg xs a<=3:=by
 unfold fH bD
 split
 ·omega
 ·split
  ·omega
  ·split
   ·split<;>omega
   ·split<;>omega
def DF (w:World) (na nb:Bool) (A1 A2 A3 A4:Value) (xa ya xb yb:List Nat):Prop:=Sl .u32 w A1 xa/\Sl .u32 w A2 ya/\Sl .u32 w A3 xb/\Sl .u32 w A4 yb
theorem DF.to {w w':World} {f i:Bool} {b c d e:Value} {j l k m:List Nat} (h:DF w f i b c d e j l k m) (a:zZ w w'):DF w' f i b c d e j l k m:=⟨h.1.to a,h.2.1.to a,h.2.2.1.to a,h.2.2.2.to a⟩
end Go.Proofs.YtlhojoefhannnaaGreat
namespace Go.Proofs.YtlhojoefhannnaaGreat.RatB
def sg (neg:Bool) (x:Nat):Int:=if neg then -(x:Int) else (x:Int)
theorem jV (neg:Bool) (x:Nat):(sg neg x).natAbs=x:=by unfold sg;cases neg<;>simp
def Canon (neg:Bool) (x y:Nat):Prop:=0<y/\Nat.gcd x y=1/\(x=0->neg=false)
def q (neg:Bool) (x y:Nat):Rat:=mkRat (sg neg x) y
theorem q_num {neg:Bool} {x y:Nat} (h:Canon neg x y):(q neg x y).num=sg neg x/\(q neg x y).den=y:=by
 have a:(sg neg x).natAbs.Coprime y:=by rw[jV];exact h.2.1
 have e:=Rat.mk_eq_mkRat (sg neg x) y (Nat.pos_iff_ne_zero.1 h.1) a;unfold q;rw[<-e];exact⟨rfl,rfl⟩
theorem q_inj {c n2:Bool} {x1 x2 d e:Nat} (k:Canon c x1 d) (l:Canon n2 x2 e) (h:q c x1 d=q n2 x2 e):c=n2/\x1=x2/\d=e:=by
 have a:=q_num k;have b:=q_num l;rw[h]at a;have i:sg c x1=sg n2 x2:=a.1.symm.trans b.1;have m:d=e:=a.2.symm.trans b.2;have j:x1=x2:=by rw[<-jV c x1,i,jV]
 refine⟨?_,j,m⟩;subst j;rcases Nat.eq_zero_or_pos x1 with f|f
 ·rw[k.2.2 f,l.2.2 f]
 ·cases c<;>cases n2<;>simp[sg]at i<;>first|rfl|omega
end Go.Proofs.YtlhojoefhannnaaGreat.RatB
namespace Go.Proofs.YtlhojoefhannnaaGreat
open Go.Proofs.Tryz Go.RowKit NumB
structure LN where
 neg:Bool
 num:List Nat
 den:List Nat
def Dy:LN:=⟨false,[],[]⟩
def LN.ok (a:LN):Prop:=Ok ai a.num/\Ok ai a.den
def LN.err (a:LN):Int:=fH a.neg a.num a.den
def LN.x (a:LN):Nat:=val ai a.num
def LN.y (a:LN):Nat:=val ai a.den
def GV (w:World) (v:Value) (a:LN):Prop:=∃ A B,v=.agg #[.bool a.neg,A,B]/\Sl .u32 w A a.num/\Sl .u32 w B a.den/\a.ok
theorem GV.to {w w':World} {v:Value} {a:LN} (h:GV w v a) (b:zZ w w'):GV w' v a:=by
 obtain⟨A,B,e,c,d,f⟩:=h;exact⟨A,B,e,c.to b,d.to b,f⟩
theorem GV.form {w:World} {v:Value} {a:LN} (h:GV w v a):∃ A n c B m d,v=.agg #[.bool a.neg,.slice A n c,.slice B m d]/\n=a.num.length/\m=a.den.length:=by
 obtain⟨A,B,rfl,⟨b,f,rfl,_⟩,⟨e,i,rfl,_⟩,_⟩:=h;exact⟨_,_,_,_,_,_,rfl,rfl,rfl⟩
theorem GV.parts {w:World} {s:Bool} {A B:Value} {a:LN} (h:GV w (.agg #[.bool s,A,B]) a):s=a.neg/\Sl .u32 w A a.num/\Sl .u32 w B a.den/\a.ok:=by
 obtain⟨f,i,e,b,c,d⟩:=h;simp only[Value.agg.injEq,Array.mk.injEq,List.cons.injEq,Value.bool.injEq,and_true]at e;obtain⟨rfl,rfl,rfl⟩:=e;exact⟨rfl,b,c,d⟩
theorem GV.ok {w:World} {v:Value} {a:LN} (h:GV w v a):a.ok:=by obtain⟨_,_,_,_,_,h⟩:=h;exact h
theorem GV.zero (w:World):GV w Cw Dy:=⟨_,_,rfl,(aW.nil_ (B:=0) (T:=0) w).sl,(aW.nil_ (B:=0) (T:=0) w).sl,Ok.nil,Ok.nil⟩
theorem LN.good {a:LN} (b:a.ok) (h:a.err=0):aj ai a.x=a.num/\aj ai a.y=a.den/\a.num.length<=128/\a.den.length<=128/\RatB.Canon a.neg a.x a.y:=by
 obtain⟨c,d,e,f,i,j,k⟩:=qF b.1 b.2 h;exact⟨c,d,e,f,i,j,k⟩
end Go.Proofs.YtlhojoefhannnaaGreat
namespace Go.Proofs.YtlhojoefhannnaaGreat
open Go.Proofs.Tryz Go.ChangeShapes Go.WideShapes Go.ChangeAt Go.RowKit Go.Joins Go.Deep NumB
inductive Tm where
 |mk (k v:Int) (s:ByteArray) (n:LN) (args:List Tm)
def aG (z:Int):Prop := -9223372036854775808<=z/\z<=9223372036854775807
inductive TC (w:World):Tm->List Value->Prop
 |mk (k v:Int) (s:ByteArray) (n:LN) (args:List Tm) (A B:Value) (Ar:Option Addr) (cap:Nat) (cs:Nat->List Value)
  (hk:aG k) (hv:aG v) (hs:s.size<=maxLen) (hA:Sl .u32 w A n.num) (hB:Sl .u32 w B n.den) (hn:n.ok)
  (hcap:args.length<=cap) (hm:cap<=maxLen)
  (hr:0<args.length->∃ b o,Ar=some ⟨b,o,none⟩/\b<w.heap.size/\∀ i,i<args.length->∀ j,j<7->w.cell? ⟨b,o+i*7+j,none⟩=(cs i)[j]?)
  (ha:∀ i (h:i<args.length),TC w args[i] (cs i)):
  TC w (.mk k v s n args) [.int .i64 k,.int .i64 v,.string s,.bool n.neg,A,B,.slice Ar args.length cap]
theorem TC.to {w w':World} {t:Tm} {cs:List Value} (h:TC w t cs) (f:zZ w w'):TC w' t cs:=by
 induction h with
 |mk k v s n a A B m l cs D J I r x F c E G M L=>
  refine .mk k v s n a A B m l cs D J I (r.to f) (x.to f) F c E (fun q=>?_) L;obtain⟨b,o,e,d,y⟩:=G q;exact⟨b,o,e,zD d f.size,fun i z j C=>(f.cell (p:=⟨b,o+i*7+j,none⟩) d).trans (y i z j C)⟩
theorem TC.len {w:World} {t:Tm} {cs:List Value} (h:TC w t cs):cs.length=7:=by cases h;rfl
theorem oV {α:Type} [Inhabited α] {n:Nat} {p:Nat->α->Prop} (h:∀ i,i<n->∃ x,p i x):∃ f:Nat->α,∀ i,i<n->p i (f i):=by
 refine⟨fun i=>if a:i<n then Classical.choose (h i a) else default,fun i a=>?_⟩;simp only[dif_pos a];exact Classical.choose_spec (h i a)
instance:Inhabited Tm:=⟨.mk 0 0 ⟨#[]⟩ ⟨false,[],[]⟩ []⟩
theorem ii {H:Type} {enc:TypeId×Value->H} {P:Program} {W:World} {d:Nat->Bool} {a:Bool} {n:Nat} {t:TypeId} {c:Value} {y:DataW H×List MemPlace} (b:P.underlying t=some (.int .i64)) (h:DataW.trod enc P W 0 d a n t [c]=some y):∃ z,c=.int .i64 z/\aG z:=by
 cases n with
 |zero=>cases h
 |succ n=>
  unfold DataW.trod at h;rw[b]at h;cases c<;>simp at h
  rename_i k z
  obtain⟨⟨rfl,hw⟩,_⟩:=h;exact⟨z,rfl,bounds_i64 hw⟩
theorem lX {H:Type} {enc:TypeId×Value->H} {P:Program} {W:World} {d:Nat->Bool} {a:Bool} {n:Nat} {t:TypeId} {c:Value} {y:DataW H×List MemPlace} (b:P.underlying t=some .string) (h:DataW.trod enc P W 0 d a n t [c]=some y):∃ s,c=.string s/\s.size<=maxLen:=by
 cases n with
 |zero=>cases h
 |succ n=>
  unfold DataW.trod at h;rw[b]at h;cases c<;>simp at h
  rename_i s
  exact⟨s,rfl,h.1⟩
theorem BU {H:Type} {enc:TypeId×Value->H} {W:World}:∀ (n:Nat) (cs:List Value) (y:DataW H×List MemPlace),DataW.trod enc prog W 0 (fun _=>true) true n 27 cs=some y->∃ t,TC W t cs:=by
 intro n
 induction n using Nat.strongRecOn with
 |_ n ih=>
  intro cs y h;obtain⟨xs,k,hk,a4,hl,O,e⟩:=DataW.trod_struct underlying27 h;have J:cs.length=7:=hl
  match cs,J,xs,O with
  |[c0,c1,c2,c3,c4,c5,c6],_,[x0,x1,x2,x3,x4],_=>
   have Z:DataW.trod enc prog W 0 (fun _=>true) true k 3 (List.take (prog.cellsOf 3) (List.drop 0 [c0,c1,c2,c3,c4,c5,c6]))=some x0:=e 0 _ rfl;have g1:DataW.trod enc prog W 0 (fun _=>true) true k 3 (List.take (prog.cellsOf 3) (List.drop 1 [c0,c1,c2,c3,c4,c5,c6]))=some x1:=e 1 _ rfl;have g2:DataW.trod enc prog W 0 (fun _=>true) true k 9 (List.take (prog.cellsOf 9) (List.drop 2 [c0,c1,c2,c3,c4,c5,c6]))=some x2:=e 2 _ rfl;have g3:DataW.trod enc prog W 0 (fun _=>true) true k 24 (List.take (prog.cellsOf 24) (List.drop 3 [c0,c1,c2,c3,c4,c5,c6]))=some x3:=e 3 _ rfl;have g4:DataW.trod enc prog W 0 (fun _=>true) true k 25 (List.take (prog.cellsOf 25) (List.drop 6 [c0,c1,c2,c3,c4,c5,c6]))=some x4:=e 4 _ rfl;have k0:prog.cellsOf 3=1:=by kernel_rfl
   have k2:prog.cellsOf 9=1:=by kernel_rfl
   have k3:prog.cellsOf 24=3:=by kernel_rfl
   have k4:prog.cellsOf 25=1:=by kernel_rfl
   have k5:prog.cellsOf 27=7:=by kernel_rfl
   simp only[k0,k2,k3,k4,List.drop_zero,List.drop_succ_cons,List.take_succ_cons,List.take_zero]at Z g1 g2 g3 g4;obtain⟨U,e0,w0⟩:=ii underlying3 Z;obtain⟨V,e1,w1⟩:=ii underlying3 g1;obtain⟨s,e2,w2⟩:=lX underlying9 g2;obtain⟨ys,P,a1,a5,a2,A,l⟩:=DataW.trod_struct underlying24 g3
   match ys,A with
   |[y0,y1,y2],_=>
   have q0:DataW.trod enc prog W 0 (fun _=>true) true P 4 (List.take (prog.cellsOf 4) (List.drop 0 [c3,c4,c5]))=some y0:=l 0 _ rfl;have q1:DataW.trod enc prog W 0 (fun _=>true) true P 22 (List.take (prog.cellsOf 22) (List.drop 1 [c3,c4,c5]))=some y1:=l 1 _ rfl;have q2:DataW.trod enc prog W 0 (fun _=>true) true P 22 (List.take (prog.cellsOf 22) (List.drop 2 [c3,c4,c5]))=some y2:=l 2 _ rfl;have k6:prog.cellsOf 4=1:=by kernel_rfl
   have k7:prog.cellsOf 22=1:=by kernel_rfl
   simp only[k6,k7,List.drop_zero,List.drop_succ_cons,List.take_succ_cons,List.take_zero]at q0 q1 q2;obtain⟨b,Y,_⟩:=DataW.trod_bool underlying4 q0;obtain⟨S,hu,ou⟩:=lW q1;obtain⟨T,hv,ov⟩:=lW q2;simp only[List.cons.injEq,and_true]at Y;subst e0 e1 e2 Y;rcases DataW.trod_slice underlying25 g4 with ⟨v,_⟩|⟨a,c,C,D,a6,n',a3,v,_,_,L,I,a0,hx,_,_⟩
   ·simp only[List.cons.injEq,and_true]at v;subst v;exact⟨.mk U V s ⟨b,S,T⟩ [],.mk U V s ⟨b,S,T⟩ [] c4 c5 none 0 (fun _=>[]) w0 w1 w2 hu hv ⟨ou,ov⟩ zA (by unfold maxLen;omega) (fun h=>absurd h (by simp)) (fun i h=>absurd h (by simp))⟩
   ·simp only[List.cons.injEq,and_true]at v;subst v;rw[k5]at hx;have N:∀ i,i<c->∃ p:Tm×List Value,W.cells? 0 (a.add (i*7)) 7=some p.2/\TC W p.1 p.2:=fun i q=>by
     have o:=hx i q;rw[zO (by omega)]at o;obtain⟨r,h2,h3⟩:=Option.bind_eq_some_iff.1 o;obtain⟨t,ht⟩:=ih n' (by omega) r _ h3;exact⟨(t,r),h2,ht⟩
    obtain⟨f,e⟩:=oV N;have x:∀ (i:Nat) (h:i<((List.range c).map fun i=>(f i).1).length),((List.range c).map fun i=>(f i).1)[i]=(f i).1:=fun i h=>by simp
    have d:((List.range c).map fun i=>(f i).1).length=c:=by simp
    have z:=TC.mk (w:=W) U V s ⟨b,S,T⟩ ((List.range c).map fun i=>(f i).1) c4 c5 (some a) C (fun i=>(f i).2) w0 w1 w2 hu hv ⟨ou,ov⟩ (by rw[d];exact L) I (fun E=>?_) (fun i q=>?_)
    ·rw[d]at z;exact⟨_,z⟩
    ·rw[d]at E ⊢;obtain⟨_,_,F⟩:=World.cells?_some (e 0 E).1;obtain⟨X,Q,B⟩:=a;have M:=F 0 (by omega);rw[zO (by rw[(e 0 E).2.len];omega)]at M;have m:B=none:=by simpa[Addr.add] using World.cell?_spot M
     subst m;refine⟨X,Q,rfl,?_,fun i q j hj=>?_⟩
     ·rcases Nat.lt_or_ge X W.heap.size with o|o
      ·exact o
      ·simp[World.cell?,Addr.add,Array.getElem?_eq_none o]at M
     ·obtain⟨_,_,G⟩:=World.cells?_some (e i q).1;have:=G j hj;rw[add_add]at this;rw[<-this,Go.WideShapes.add_plain,Nat.add_assoc]
    ·rw[x i q];exact (e i (by simpa using q)).2
end Go.Proofs.YtlhojoefhannnaaGreat
namespace Go.Proofs.YtlhojoefhannnaaGreat
open Go.Proofs.Tryz Go.RowKit NumB
theorem aH {c:Func} {p:Tmp} {ty:TypeId} (h:c.results=#[.cell p ty]) (b:Array Value) (P:Program) (w:World):
 (results c b).run P w=((asAddr (b.getD p undef)).run P w).andThen fun a d=>(loadVar ty a).run P d:=by
 simp only[results,h];simp[Sem.run_bind,Result.andThen]
theorem ax (w:World) (a b:Obj):zZ w ((w.alloc a).alloc b):=(ae w a).alloc (by simp) b
theorem ku (w:World):Calls prog 32 #[] w fun e w'=>e=.returned (.pointer (some ⟨w.heap.size,0,none⟩))/\w'=w.alloc (.cells #[.slice none 0 0,.slice none 0 0,.slice none 0 0] 95):=by
 go_enter func32,ntmps32;go_wp2_with fail;go_ret;exact⟨rfl,rfl⟩
theorem sH (w:World):Calls prog 21 #[] w fun e w'=>e=.returned (.pointer (some ⟨w.heap.size+1,0,none⟩))/\w'=(w.alloc (.cells #[.slice none 0 0,.slice none 0 0,.slice none 0 0] 95)).alloc (.cells #[.pointer (some ⟨w.heap.size,0,none⟩)] 86):=by
 go_enter func21,ntmps21;go_wp2_with fail;refine (ku _).mono ?_;rintro e a ⟨rfl,rfl⟩;go_wp2_with fail;go_ret;exact⟨rfl,rfl⟩
theorem du (v:Int) (w:World):Calls prog 35 #[.int .i64 v] w fun e w'=>e=.returned (.agg #[.int .i64 1,.int .i64 v,.string ⟨#[]⟩,.bool false,.slice none 0 0,.slice none 0 0,.slice none 0 0])/\zZ w w':=by
 go_enter func35,ntmps35;go_wp2_with fail;refine bodyPost_ret (v:=.agg #[.int .i64 1,.int .i64 v,.string ⟨#[]⟩,.bool false,.slice none 0 0,.slice none 0 0,.slice none 0 0]) (by rw[aH rfl];go_simp) rfl ?_;exact⟨rfl,ae w _⟩
theorem jq (s:ByteArray) (Ar:Option Addr) (l a:Nat) (w:World):Calls prog 24 #[.string s,.slice Ar l a] w fun e w'=>e=.returned (.agg #[.int .i64 5,.int .i64 0,.string s,.bool false,.slice none 0 0,.slice none 0 0,.slice Ar l a])/\zZ w w':=by
 go_enter func24,ntmps24;go_wp2_with fail;refine bodyPost_ret (v:=.agg #[.int .i64 5,.int .i64 0,.string s,.bool false,.slice none 0 0,.slice none 0 0,.slice Ar l a]) (by rw[aH rfl];go_simp) rfl ?_;exact⟨rfl,ae w _⟩
theorem rj (h:Nat) (A B C:Option Addr) (n c n2 b i d:Nat) (w:World) (f:ah w h 95 #[.slice A n c,.slice B n2 b,.slice C i d]):Calls prog 53 #[.pointer (some ⟨h,0,none⟩)] w fun e w'=>e=.returned (.int .i64 (n:Int))/\w'=w:=by
 have a:=f.cell 0;simp only[L3]at a;go_enter func53,ntmps53;go_wp2_with fail;go_ret;exact⟨rfl,rfl⟩
theorem wd (g h:Nat) (A B C:Option Addr) (n c n2 a i b:Nat) (w:World) (f:ah w g 86 #[.pointer (some ⟨h,0,none⟩)]) (d:ah w h 95 #[.slice A n c,.slice B n2 a,.slice C i b]):Calls prog 26 #[.pointer (some ⟨g,0,none⟩)] w fun e w'=>e=.returned (.int .i64 (n:Int))/\w'=w:=by
 have k:=f.cell 0;simp only[L3]at k;have j:=zH (rj h A B C n c n2 a i b w d);clear d f;go_enter func26,ntmps26;go_wp2_with fail;refine j.o.mono ?_;rintro e l ⟨rfl,rfl⟩;go_wp2_with fail;go_ret;exact⟨rfl,rfl⟩
def zc:List Value:=[.bool false,.int .i64 0,.int .i64 0,.string ⟨#[]⟩,.bool false,.slice none 0 0,.slice none 0 0,.slice none 0 0,.slice none 0 0]
def ew (w:World) (B h:Nat) (A:Option Addr) (n c:Nat) (tv:Value) (xs:List Value):Prop:=
 ah w h 95 #[.slice A n c,tv,.slice none 0 0]/\B<=h/\w.ownsRow B 98 9 (.slice A n c) n xs
structure ag (p:Nat->Prop) (w w':World):Prop where
 os:w'.os=w.os
 tape:w'.tape=w.tape
 output:w'.output=w.output
 size:w.heap.size<=w'.heap.size
 block:∀ k,k<w.heap.size->¬p k->w'.heap[k]?=w.heap[k]?
theorem ag.refl (p:Nat->Prop) (w:World):ag p w w:=⟨rfl,rfl,rfl,zN _,fun _ _ _=>rfl⟩
theorem ag.trans {p:Nat->Prop} {a b c:World} (h:ag p a b) (k:ag p b c):ag p a c:=
 ⟨k.os.trans h.os,k.tape.trans h.tape,k.output.trans h.output,zC h.size k.size,fun i d e=>(k.block i (zD d h.size) e).trans (h.block i d e)⟩
theorem ag.mono {p q:Nat->Prop} {a b:World} (h:ag p a b) (c:∀ k,p k->q k):ag q a b:=⟨h.os,h.tape,h.output,h.size,fun i d f=>h.block i d fun e=>f (c i e)⟩
theorem ag.of_below {p:Nat->Prop} {a b:World} (h:zZ a b):ag p a b:=⟨h.os,h.tape,h.output,h.size,fun i c _=>h.block i c⟩
theorem ag.below {p:Nat->Prop} {a b:World} {B:Nat} (h:ag p a b) (c:B<=a.heap.size) (e:∀ k,p k->B<=k):Below B a b:=⟨h.os,h.tape,h.output,h.size,fun i d=>h.block i (zD d c) fun q=>by have:=e i q;omega⟩
theorem ag.alloc (p:Nat->Prop) (w:World) (o:Obj):ag p w (w.alloc o):=ag.of_below (ae w o)
theorem ag.drew {p:Nat->Prop} {a b:World} (h:ag p a b):ag p a b.drew:=⟨h.os,h.tape,h.output,h.size,h.block⟩
theorem ag.grown {w w':World} {a:Option Nat} (h:w.grownBy w' a):ag (fun k=>some k=a) w w':=⟨h.os,h.tape,h.output,h.size,fun k b c=>h.block k b c⟩
theorem ag.setCell (w:World) (a:Addr) (u:Value):ag (fun k=>k=a.block) w (w.setCell a u):=by
 have h:=(Below.refl 0 w).setCell (p:=a) (Nat.zero_le _) u;exact⟨h.os,h.tape,h.output,h.size,fun k _ b=>Below.heap_setCell w a u k b⟩
theorem ag.blk {p:Nat->Prop} {w w':World} {g:Nat} {t:TypeId} {cs:Array Value} (h:ag p w w') (a:ah w g t cs) (b:¬p g):ah w' g t cs:=(h.block g a.lt b).trans a
theorem ag.row {p:Nat->Prop} {w w':World} {B n size:Nat} {e:TypeId} {v:Value} {xs:List Value} (h:ag p w w') (m:w.ownsRow B e size v n xs) (l:∀ g,v.ownBlock=some g->¬p g):w'.ownsRow B e size v n xs:=by
 obtain⟨d,f|⟨g,a,b,rfl,i,c,j⟩⟩:=m
 ·exact⟨d,.inl f⟩
 ·refine⟨d,.inr ⟨g,a,b,rfl,i,?_,j⟩⟩;have k:g<w.heap.size:=by
   rcases Nat.lt_or_ge g w.heap.size with h|h
   ·exact h
   ·rw[Array.getElem?_eq_none h]at c;cases c
  exact (h.block g k (l g rfl)).trans c
theorem eT {A:Option Addr} {n c k:Nat} (h:(Value.slice A n c).ownBlock=some k):∃ a,A=some a/\k=a.block:=by
 cases A with
 |none=>cases h
 |some a=>exact⟨a,rfl,by simpa[Value.ownBlock] using h.symm⟩
theorem jT {w:World} {B n c m h size:Nat} {A:Option Addr} {t e:TypeId} {cs:Array Value} {xs:List Value} (l:ah w h t cs) (o:w.ownsRow B e size (.slice A n c) m xs) (f:t≠e):¬∃ a,A=some a/\h=a.block:=by
 rintro⟨a,rfl,rfl⟩;rcases o.2 with ⟨b,_⟩|⟨g,i,j,b,_,k,_⟩
 ·cases b
 ·simp only[Value.slice.injEq,Option.some.injEq]at b;obtain⟨rfl,_,_⟩:=b;have d:w.heap[g]?=some (.cells cs t (0,0)):=l;rw[k]at d;simp at d;exact f d.2.symm
theorem wD:(prog.info? 98).map (fun i=>(i.zero,i.size,i.bytes))=some (some (.agg zc.toArray),9,144):=by kernel_rfl
theorem lP (B h:Nat) (A:Option Addr) (n c:Nat) (M:Value) (xs:List Value) (w:World) (hn:n<=1000000) (V:ew w B h A n c M xs):
 Calls prog 33 #[.pointer (some ⟨h,0,none⟩)] w fun e w'=>∃ N c',e=.returned (.int .i64 (n:Int))/\ew w' B h N (n+1) c' M (xs++zc)/\ag (fun k=>k=h\/∃ a,A=some a/\k=a.block) w w':=by
 obtain⟨d,U,f⟩:=V;have Q:=d.cell 0;simp only[L3]at Q;have P:=zH d;have q:=zH f;have a0:=d.lt;have fz:=d.frozen 0;have C:Yd (¬∃ a,A=some a/\h=a.block):=jT d f (by decide);clear d f;obtain⟨i0,v,y,l,z⟩:=info_parts wD;have O:=zH v;have D:=zH y;have E:=zH l;have F:=zH z;clear v y l z;have o:Yd (∀ j u,zc[j]?=some u->(w.alloc (.cells zc.toArray 98)).cell? ((⟨w.heap.size,0,none⟩:Addr).add j)=some u):=fun j u hj=>by
  have:=(ah.new w 98 zc.toArray).cell j;rw[Go.WideShapes.add_plain,Nat.zero_add,this];simpa using hj
 go_enter func33,ntmps33
 go_wp2_with (at_builtin;refine wpList_append_own_at _ rfl _ _ 91 rfl B 98 i0 (.agg zc.toArray) 9 144 underlying91 O.o D.o E.o F.o rfl (by decide) (.slice A n c) n xs rfl (q.o.alloc _) ⟨w.heap.size,0,none⟩ 1 1 zc rfl rfl o.o (by decide) (by unfold maxLen;omega) (by omega) (by simp;omega) ?_;intro v1 I b r l G;obtain⟨J,L,rfl⟩:=Joins.ownsRow_form b (by omega);have p:=zH b;have m:Yd (ag (fun k=>∃ a,A=some a/\k=a.block) w I):=(ag.alloc _ w _).trans ((ag.grown r).mono fun k d=>eT d.symm);have i:=zH (m.o.blk P.o C.o);have T:=i.o.frozen 0;have S:=i.o.cell 0;simp only[L3]at S;clear b r l G)
 go_ret;have x:=jT i.o p.o (by decide);refine⟨some ⟨J,0,none⟩,L,rfl,⟨?_,U,?_⟩,?_⟩
 ·have:=i.o.set_ 0 (.slice (some ⟨J,0,none⟩) (n+1) L);simpa using this
 ·refine (ag.setCell I ⟨h,0,none⟩ _).row p.o fun g Z=>?_;obtain⟨a,W,X⟩:=eT Z;intro Y;exact x ⟨a,W,Y.symm.trans X⟩
 ·exact (m.o.mono fun k d=>.inr d).trans ((ag.setCell I ⟨h,0,none⟩ _).mono fun k d=>.inl d)
theorem ag.setNew {p:Nat->Prop} {w w':World} (h:ag p w w') {a:Addr} (d:w.heap.size<=a.block) (u:Value):ag p w (w'.setCell a u):=by
 have k:=ag.setCell w' a u;exact⟨k.os.trans h.os,k.tape.trans h.tape,k.output.trans h.output,zC h.size k.size,fun i b c=>(k.block i (zD b h.size) (by show ¬i=a.block;omega)).trans (h.block i b c)⟩
theorem ew.kept {p:Nat->Prop} {w w':World} {B h n c:Nat} {A:Option Addr} {e:Value} {xs:List Value} (b:ew w B h A n c e xs) (d:ag p w w') (f:¬p h) (i:∀ a,A=some a->¬p a.block):ew w' B h A n c e xs:=
 ⟨d.blk b.1 f,b.2.1,d.row b.2.2 fun g l=>by obtain⟨a,j,k⟩:=eT l;rw[k];exact i a j⟩
theorem ew.row_lt {w:World} {B h n c:Nat} {A:Option Addr} {l:Value} {xs:List Value} (j:ew w B h A n c l xs) {a:Addr} (k:A=some a):a.block<w.heap.size/\B<=a.block:=by
 subst k;rcases j.2.2.2 with ⟨b,_⟩|⟨g,e,f,b,i,d,_⟩
 ·cases b
 ·simp only[Value.slice.injEq,Option.some.injEq]at b;obtain⟨rfl,_,_⟩:=b;refine⟨?_,i⟩;rcases Nat.lt_or_ge g w.heap.size with h|h
  ·exact h
  ·rw[Array.getElem?_eq_none h]at d;cases d
def zt:List Value:=[.int .i64 0,.int .i64 0,.string ⟨#[]⟩,.bool false,.slice none 0 0,.slice none 0 0,.slice none 0 0]
def vt (n:Int):List Value:=[.int .i64 1,.int .i64 n,.string ⟨#[]⟩,.bool false,.slice none 0 0,.slice none 0 0,.slice none 0 0]
theorem wv (B g h:Nat) (A:Option Addr) (n c:Nat) (j:Value) (xs:List Value) (w:World) (N:n<=1000000) (G:ah w g 86 #[.pointer (some ⟨h,0,none⟩)]) (x:ew w B h A n c j xs):
 Calls prog 22 #[.pointer (some ⟨g,0,none⟩)] w fun e w'=>∃ l c',e=.returned (.agg (vt n).toArray)/\ew w' B h l (n+1) c' j (xs++zc)/\ag (fun k=>k=h\/∃ a,A=some a/\k=a.block) w w':=by
 have E:=(G.alloc (.cells zt.toArray 27)).cell 0;simp only[L3]at E;unfold zt at E;have M:=x.1.lt;have o:ew (w.alloc (.cells zt.toArray 27)) B h A n c j xs:=x.kept (ag.alloc (fun _=>False) w _) (fun h=>h) (fun _ _ h=>h);have J:=zH (lP B h A n c j xs _ N o);have D:Yd (∀ a,A=some a->a.block<w.heap.size):=fun a q=>(x.row_lt q).1;have f:=zH (ah.new w 27 zt.toArray);clear G x o;go_enter func22,ntmps22;go_wp2_with fail;refine J.o.mono ?_;rintro e I ⟨l,c',rfl,m,d⟩;have f:=zH (d.blk f.o (fun r=>by
  rcases r with r|⟨a,q,r⟩
  ·omega
  ·have:=D.o a q;omega))
 have HS:=zH m;have C:Yd (ag (fun k=>k=h\/∃ a,A=some a/\k=a.block) w I):=(ag.alloc _ w _).trans d;clear m d E;go_wp2_with fail;refine (du (n:Int) I).mono ?_;rintro e O ⟨rfl,y⟩;have f:=zH (f.o.to y);have HS:=zH (HS.o.kept (p:=fun _=>False) (ag.of_below y) (fun h=>h) (fun _ _ h=>h));have C:Yd (ag (fun k=>k=h\/∃ a,A=some a/\k=a.block) w O):=C.o.trans (ag.of_below y);clear y;have z:=f.o;unfold zt at z;obtain⟨P,Q,S,T,U,V,X⟩:=z.s7;obtain⟨Y,Z,z2,z3,z4,z5,z6⟩:=z.z7;clear z;go_wp2_with fail;refine bodyPost_ret (v:=.agg (vt n).toArray) (by rw[aH rfl];unfold vt;go_simp) rfl ?_;have F:=jT f.o HS.o.2.2 (by decide);have b:∀ (i:Nat) (u:Value) (W:World),ew W B h l (n+1) c' j (xs++zc)->ew (W.setCell ⟨w.heap.size,i,none⟩ u) B h l (n+1) c' j (xs++zc):=fun i u W L=>L.kept (ag.setCell W _ u) (by show ¬h=w.heap.size;omega) (fun a q r=>F ⟨a,q,r.symm⟩);exact⟨l,c',rfl,b _ _ _ (b _ _ _ (b _ _ _ (b _ _ _ (b _ _ _ (b _ _ _ (b _ _ _ HS.o)))))),(((((((C.o.setNew zA _).setNew zA _).setNew zA _).setNew zA _).setNew zA _).setNew zA _).setNew zA _)⟩
end Go.Proofs.YtlhojoefhannnaaGreat

/- fetterlockref1.Fault: a list that ends with a zero, or an empty denominator. And 10 more texts. -/
import Derived.Laws.BytesArg
import Derived.Test.YtlhojoefhannnaaGreatJx6
import Derived.Test.YtlhojoefhannnaaGreatJx7
set_option linter.unusedVariables false
set_option linter.unusedSimpArgs false
set_option maxRecDepth 100000
set_option maxHeartbeats 51200000
namespace Go.Proofs.YtlhojoefhannnaaGreat
open Go.Proofs.Tryz Go.RowKit NumB
theorem iE {xs:List Nat} {k:Nat} (a:xs.length=k+1):bm xs=decide (xs.getD k 0=0):=by
 unfold bm;rw[a];exact decide_eq_decide.2 ⟨fun h=>h.2,fun h=>⟨by omega,h⟩⟩
theorem wK {xs:List Nat} (a:xs.length=0):bm xs=false:=decide_eq_false (by omega)
theorem tG (neg:Bool) (xs x:List Nat) (G I:Value) (w:World) (J:Sl .u32 w G xs) (L:Sl .u32 w I x) (hx:xs.length<=128) (hy:x.length<=128) (r:bm xs=true\/bm x=true\/x.length=0):
 Calls prog 88 #[.agg #[.bool neg,G,I]] w fun e w'=>e=.returned (.int .i64 2)/\zZ w w':=by
 have l:∀ o:Obj,zZ w (w.alloc o):=fun o=>zB.alloc zA o;obtain⟨A,Z,rfl,N,B,c⟩:=J;obtain⟨X,cb,rfl,O,C,g⟩:=L;unfold maxLen at B C;have d:=zH l;clear l;generalize y:xs.length=n at*;generalize z:x.length=m at*;rcases Nat.eq_zero_or_pos m with t|t
 ·subst t;clear r c g y z;go_enter func88,ntmps88
  go_wp2
  go_ret;exact⟨rfl,d.o _⟩
 ·obtain⟨k,rfl⟩:∃ k,m=k+1:=⟨m-1,by omega⟩;obtain⟨b,o,p,rfl,M,f,P⟩:=g.at_ (i:=k) (by omega);have hk:((k+1:Nat):Int)-1=(k:Int):=by omega
  have U:(k:Int)<((k+1:Nat):Int):=by omega
  have V:(((k+1:Nat):Int)==0)=false:=zL (by omega);rw[iE z,f]at r;clear g z;by_cases E:p=0
  ·subst E;clear r c y f;go_enter func88,ntmps88
   go_wp2
   go_ret;exact⟨rfl,d.o _⟩
  ·have W:((p:Int)==0)=false:=zL (by omega);have a:bm xs=true:=by
    rcases r with h|h|h
    ·exact h
    ·exact absurd (of_decide_eq_true h) E
    ·omega
   rcases Nat.eq_zero_or_pos n with D|D
   ·rw[wK (by omega)]at a;exact absurd a (by decide)
   ·obtain⟨j,rfl⟩:∃ j,n=j+1:=⟨n-1,by omega⟩;obtain⟨Y,o2,q,rfl,F,v,Q⟩:=c.at_ (i:=j) (by omega);rw[iE y,v]at a;obtain rfl:q=0:=of_decide_eq_true a;have hj:((j+1:Nat):Int)-1=(j:Int):=by omega
    have S:(j:Int)<((j+1:Nat):Int):=by omega
    have T:(0:Int)<((j+1:Nat):Int):=by omega
    clear r c y f E a v;go_enter func88,ntmps88
    go_wp2
    go_ret;exact⟨rfl,d.o _⟩
theorem dp:aj aw 1=[1]:=gx aJ (Ok.cons (by decide) Ok.nil) (by simp[mO]) (by simp)
theorem oh (w:World):aV (w.alloc (.cells #[.int .i64 1] 3)) (.slice (some ⟨w.heap.size,0,none⟩) 1 1) 1:=by
 unfold aV;rw[dp];refine⟨_,1,rfl,by decide,by decide,rfl,fun _=>⟨w.heap.size,0,rfl,by simp,fun i a=>?_⟩⟩;obtain rfl:i=0:=by simpa using a
 rw[cell_of_row _ w.heap.size _ #[.int .i64 1] 3 (0,0) (heap_alloc_new w _)];rfl
theorem ti {neg:Bool} {x y:Nat} (b:x≠0):bD neg x y=if Nat.gcd x y=1 then 0 else 2:=by
 unfold bD;rw[if_neg b];by_cases h:Nat.gcd x y=1
 ·rw[if_pos h,if_pos (.inr (.inr h))]
 ·rw[if_neg h,if_neg];rintro (rfl|rfl|a)
  ·exact h (Nat.gcd_one_right _)
  ·exact h (Nat.gcd_one_left _)
  ·exact h a
theorem dY {xs:List Nat} (a:Ok ai xs) (b:xs.length<=128):(aj aw (val ai xs)).length<=256:=by
 refine bC aJ (zD (gM a) ?_);have h:ai=aw ^ 2:=by decide
 rw[h,<-Nat.pow_mul];exact Nat.pow_le_pow_right (by decide) (by omega)
theorem tH (neg:Bool) (xs P:List Nat) (va vb:Value) (w:World) (ha:Sl .u32 w va xs) (hb:Sl .u32 w vb P) (a2:Ok ai xs) (a3:Ok ai P) (hx:xs.length<=128) (hy:P.length<=128) (I:bm xs=false) (a1:bm P=false) (d3:0<P.length):
 Calls prog 88 #[.agg #[.bool neg,va,vb]] w fun e w'=>e=.returned (.int .i64 (bD neg (val ai xs) (val ai P)))/\zZ w w':=by
 have HA:=zH ha;have HB:=zH hb;obtain⟨A,W,rfl,c7,c2,a9⟩:=ha;obtain⟨A',X,rfl,c8,c3,b0⟩:=hb;unfold maxLen at c2 c3;have HO:=zH (zW (zW a2 a3) (zW (zC hx (by omega:128<=100000)) (zC hy (by omega:128<=100000))));have a5:Yd (val ai xs=0↔xs.length=0):=by
  constructor
  ·intro h;rcases Nat.eq_zero_or_pos xs.length with h0|h0
   ·exact h0
   ·have:=jC (B:=ai) (by decide) (top_of_last I) (by intro e;rw[e]at h0;exact absurd h0 (by simp));omega
  ·intro h;rw[zF h];rfl
 have L:=zH (zW (dY a2 hx) (dY a3 hy));clear a2 a3;generalize hn:xs.length=n at*;generalize hm:P.length=m at*;have HN:=zH (zW hn hm);obtain⟨k,rfl⟩:∃ k,m=k+1:=⟨m-1,by omega⟩;obtain⟨b,o,p,rfl,c6,a8,a6⟩:=b0.at_ (i:=k) (by omega);rw[iE hm,a8]at a1;have d2:((p:Int)==0)=false:=zL (by have:=of_decide_eq_false a1;omega);have hk:((k+1:Nat):Int)-1=(k:Int):=by omega
 have d0:(k:Int)<((k+1:Nat):Int):=by omega
 have d1:(((k+1:Nat):Int)==0)=false:=zL (by omega);clear b0 hm a1 a8;have U:∀ o:Obj,Yd (Sl .u32 (w.alloc o).drew (.slice A n W) xs):=fun o=>HA.o.to (zB.alloc zA o).drew;have V:∀ o':Obj,Yd (Sl .u32 (w.alloc o').drew (.slice (some ⟨b,o,none⟩) (k+1) X) P):=fun o'=>HB.o.to (zB.alloc zA o').drew;clear HA HB;have b7:n=0\/∃ j Q o2 z:Nat,n=j+1/\A=some ⟨Q,o2,none⟩/\w.cell? ⟨Q,o2+j,none⟩=some (.int .u32 (z:Int))/\((z:Int)==0)=false/\Q<w.heap.size:=by
  rcases Nat.eq_zero_or_pos n with h0|h0
  ·exact .inl h0
  ·obtain⟨j,rfl⟩:∃ j,n=j+1:=⟨n-1,by omega⟩;obtain⟨Q,o2,q,rfl,b6,c4,c0⟩:=a9.at_ (i:=j) (by omega);rw[iE hn,c4]at I;exact .inr ⟨j,Q,o2,q,rfl,rfl,c0,zL (by have:=of_decide_eq_false I;omega),b6⟩
 clear a9 hn I;have D:Yd (val ai xs=0↔n=0):=a5.o;clear a5;generalize b1:val ai xs=x at*;generalize b3:val ai P=y at*;have HV:=zH (zW b1 b3);clear b1 b3;rcases b7 with a7|⟨j,Q,o2,z,rfl,rfl,c9,d4,g⟩
 ·have c5:x=0:=D.o.2 a7;subst a7 c5;clear D;have hk:∀ G F:World,zZ G F->(G.cell? ⟨w.heap.size,0,none⟩=some (.bool neg)/\G.cell? ⟨w.heap.size,1,none⟩=some (.slice A 0 W)/\G.cell? ⟨w.heap.size,2,none⟩=some (.slice (some ⟨b,o,none⟩) (k+1) X)/\w.heap.size<G.heap.size)->(F.cell? ⟨w.heap.size,0,none⟩=some (.bool neg)/\F.cell? ⟨w.heap.size,1,none⟩=some (.slice A 0 W)/\F.cell? ⟨w.heap.size,2,none⟩=some (.slice (some ⟨b,o,none⟩) (k+1) X)/\w.heap.size<F.heap.size):=
   fun G F Y ⟨h3,h4,h5,Z⟩=>⟨(Y.cell (p:=⟨w.heap.size,0,none⟩) Z).trans h3,(Y.cell (p:=⟨w.heap.size,1,none⟩) Z).trans h4,(Y.cell (p:=⟨w.heap.size,2,none⟩) Z).trans h5,zD Z Y.size⟩
  have HK:=zH hk;clear hk;go_enter func88,ntmps88
  go_wp2
  go_region_held3 (fun w'=>w'.cell? ⟨w.heap.size,0,none⟩=some (.bool neg)/\w'.cell? ⟨w.heap.size,1,none⟩=some (.slice A 0 W)/\w'.cell? ⟨w.heap.size,2,none⟩=some (.slice (some ⟨b,o,none⟩) (k+1) X)/\w.heap.size<w'.heap.size)
   (first|go_keep|(refine HK.o _ _ (by assumption) ?_;go_keep))
   (first
    |(go_at_call 125;((with_reducible refine (fU xs (.slice A 0 W) _ (by exact (U _).out) HO.o.1.1 (by rw[HN.o.1];exact HO.o.2.1)).mono ?_));rintro e w1 ⟨v1,rfl,J,d⟩)
    |(go_at_call 125;((with_reducible refine (fU P (.slice (some ⟨b,o,none⟩) (k+1) X) _ (by exact (V _).out.to d) HO.o.1.2 (by rw[HN.o.2];exact HO.o.2.2)).mono ?_));rintro e S ⟨v2,rfl,O,g⟩))
  have b8:S.cell? ⟨w.heap.size,0,none⟩=some (.bool neg):=(g.cell (p:=⟨w.heap.size,0,none⟩) (zD (by simp) d.size)).trans ((d.cell (p:=⟨w.heap.size,0,none⟩) (by simp)).trans (by simp));have a:Yd (zZ w S):=((zB.alloc zA _).drew.trans (d.mono (by simp))).trans (g.mono (zC (by simp) d.size));have l:=zH (J.to g);have r:=zH O;rw[HV.o.1]at l;rw[HV.o.2]at r;clear J O d g HK U V a6;obtain⟨A1,n1,c1,rfl,I,a4⟩:=fS l.o (zC L.o.1 (by omega));obtain rfl:n1=0:=by omega
  clear a4;cases neg with
  |true=>
   have E:Yd (bD true 0 y=2):=by unfold Yd bD;rw[if_pos rfl,if_neg (by simp)]
   go_wp2
   go_ret;rw[E.o];exact⟨rfl,a.o⟩
  |false=>
   have E:Yd (bD false 0 y=if y=1 then 0 else 2):=by unfold Yd bD;rw[if_pos rfl];simp
   by_cases C:y=1
   ·rw[if_pos C]at E;have T:Yd (cF y 1=0):=jg C;have HC:Yd (cF (Nat.gcd 0 y) 1=0):=by unfold Yd;rw[Nat.gcd_zero_left];exact jg C
    have HG:Yd ((aj aw (Nat.gcd 0 y)).length<=1000000):=by unfold Yd;rw[Nat.gcd_zero_left];exact zC L.o.2 (by omega)
    clear C;go_wp2_with fail;refine (dG y 1 _ _ _ (by exact r.o.to (zB.alloc zA _)) (by exact oh S) (zC L.o.2 (by omega)) (by rw[dp];decide)).mono ?_;rintro e w3 ⟨rfl,rfl⟩;rw[T.o];have b4:=zH (l.o.to ((Below.refl _ S).alloc zA (.cells #[.int .i64 1] 3)));have b5:=zH (r.o.to ((Below.refl _ S).alloc zA (.cells #[.int .i64 1] 3)));have M:=zH (a.o.alloc a.o.size (.cells #[.int .i64 1] 3));clear l r a T;generalize S.alloc (.cells #[.int .i64 1] 3)=d5 at*;go_wp2_with fail;refine (mo 0 y _ _ _ (by exact b4.o) (by exact b5.o) (zC L.o.1 (by omega)) (zC L.o.2 (by omega))).mono ?_;rintro e w3 ⟨v3,rfl,v,t⟩;have f:=zH (zW v t);clear v t;go_wp2_with fail;refine (dG (Nat.gcd 0 y) 1 _ _ _ (by exact f.o.1.to (zB.alloc zA _)) (by exact oh w3) HG.o (by rw[dp];decide)).mono ?_;rintro e w4 ⟨rfl,rfl⟩;rw[HC.o]
    go_wp2
    go_ret;rw[E.o];exact⟨rfl,(M.o.trans (f.o.2.mono M.o.size)).alloc (zC M.o.size f.o.2.size) _⟩
   ·rw[if_neg C]at E;have hc:(cF y 1 != 0)=true:=by rw[bne_iff_ne,Ne,nC];exact C
    generalize N:cF y 1=c at*;have T:=zH N;clear C N;go_wp2_with fail;refine (dG y 1 _ _ _ (by exact r.o.to (zB.alloc zA _)) (by exact oh S) (zC L.o.2 (by omega)) (by rw[dp];decide)).mono ?_;rintro e w3 ⟨rfl,rfl⟩;rw[T.o]
    go_wp2
    go_ret;rw[E.o];exact⟨rfl,a.o.alloc a.o.size _⟩
 ·have a0:Yd (x≠0):=by intro h;have:=D.o.1 h;omega
  clear D;have hk:∀ G F:World,zZ G F->(G.cell? ⟨w.heap.size,0,none⟩=some (.bool neg)/\G.cell? ⟨w.heap.size,1,none⟩=some (.slice (some ⟨Q,o2,none⟩) (j+1) W)/\G.cell? ⟨w.heap.size,2,none⟩=some (.slice (some ⟨b,o,none⟩) (k+1) X)/\w.heap.size<G.heap.size)->(F.cell? ⟨w.heap.size,0,none⟩=some (.bool neg)/\F.cell? ⟨w.heap.size,1,none⟩=some (.slice (some ⟨Q,o2,none⟩) (j+1) W)/\F.cell? ⟨w.heap.size,2,none⟩=some (.slice (some ⟨b,o,none⟩) (k+1) X)/\w.heap.size<F.heap.size):=
   fun G F Y ⟨h3,h4,h5,Z⟩=>⟨(Y.cell (p:=⟨w.heap.size,0,none⟩) Z).trans h3,(Y.cell (p:=⟨w.heap.size,1,none⟩) Z).trans h4,(Y.cell (p:=⟨w.heap.size,2,none⟩) Z).trans h5,zD Z Y.size⟩
  have HK:=zH hk;clear hk;go_enter func88,ntmps88
  go_wp2
  go_region_held3 (fun w'=>w'.cell? ⟨w.heap.size,0,none⟩=some (.bool neg)/\w'.cell? ⟨w.heap.size,1,none⟩=some (.slice (some ⟨Q,o2,none⟩) (j+1) W)/\w'.cell? ⟨w.heap.size,2,none⟩=some (.slice (some ⟨b,o,none⟩) (k+1) X)/\w.heap.size<w'.heap.size)
   (first|go_keep|(refine HK.o _ _ (by assumption) ?_;go_keep))
   (first
    |(go_at_call 125;((with_reducible refine (fU xs (.slice (some ⟨Q,o2,none⟩) (j+1) W) _ (by exact (U _).out) HO.o.1.1 (by rw[HN.o.1];exact HO.o.2.1)).mono ?_));rintro e w1 ⟨v1,rfl,J,d⟩)
    |(go_at_call 125;((with_reducible refine (fU P (.slice (some ⟨b,o,none⟩) (k+1) X) _ (by exact (V _).out.to d) HO.o.1.2 (by rw[HN.o.2];exact HO.o.2.2)).mono ?_));rintro e S ⟨v2,rfl,O,g⟩))
  have b8:S.cell? ⟨w.heap.size,0,none⟩=some (.bool neg):=(g.cell (p:=⟨w.heap.size,0,none⟩) (zD (by simp) d.size)).trans ((d.cell (p:=⟨w.heap.size,0,none⟩) (by simp)).trans (by simp));have a:Yd (zZ w S):=((zB.alloc zA _).drew.trans (d.mono (by simp))).trans (g.mono (zC (by simp) d.size));have l:=zH (J.to g);have r:=zH O;rw[HV.o.1]at l;rw[HV.o.2]at r;clear J O d g HK U V a6;obtain⟨A1,n1,c1,rfl,I,a4⟩:=fS l.o (zC L.o.1 (by omega));have J:((n1:Int)==0)=false:=zL (by have:=a0.o;omega);clear a4;have E0:Yd (bD neg x y=if Nat.gcd x y=1 then 0 else 2):=ti a0.o;have HG:Yd ((aj aw (Nat.gcd x y)).length<=1000000):=zC (bT aJ (Nat.gcd_le_left _ (Nat.pos_of_ne_zero a0.o))) (zC L.o.1 (by omega));by_cases hg:Nat.gcd x y=1
  ·have E:Yd (bD neg x y=0):=by unfold Yd;rw[E0.o,if_pos hg]
   have HC:Yd (cF (Nat.gcd x y) 1=0):=jg hg;clear hg E0;go_wp2_with fail;refine (mo x y _ _ _ (by exact l.o) (by exact r.o) (zC L.o.1 (by omega)) (zC L.o.2 (by omega))).mono ?_;rintro e w3 ⟨v3,rfl,v,t⟩;have f:=zH (zW v t);clear v t;go_wp2_with fail;refine (dG (Nat.gcd x y) 1 _ _ _ (by exact f.o.1.to (zB.alloc zA _)) (by exact oh w3) HG.o (by rw[dp];decide)).mono ?_;rintro e w4 ⟨rfl,rfl⟩;rw[HC.o]
   go_wp2
   go_ret;rw[E.o];exact⟨rfl,(a.o.trans (f.o.2.mono a.o.size)).alloc (zC a.o.size f.o.2.size) _⟩
  ·have E:Yd (bD neg x y=2):=by unfold Yd;rw[E0.o,if_neg hg]
   have hc:(cF (Nat.gcd x y) 1 != 0)=true:=by rw[bne_iff_ne,Ne,nC];exact hg
   generalize N:cF (Nat.gcd x y) 1=c at*;have HC:=zH N;clear hg E0 N;go_wp2_with fail;refine (mo x y _ _ _ (by exact l.o) (by exact r.o) (zC L.o.1 (by omega)) (zC L.o.2 (by omega))).mono ?_;rintro e w3 ⟨v3,rfl,v,t⟩;have f:=zH (zW v t);clear v t;go_wp2_with fail;refine (dG (Nat.gcd x y) 1 _ _ _ (by exact f.o.1.to (zB.alloc zA _)) (by exact oh w3) HG.o (by rw[dp];decide)).mono ?_;rintro e w4 ⟨rfl,rfl⟩;rw[HC.o]
   go_wp2
   go_ret;rw[E.o];exact⟨rfl,(a.o.trans (f.o.2.mono a.o.size)).alloc (zC a.o.size f.o.2.size) _⟩
theorem eH (neg:Bool) (xs a:List Nat) (c d:Value) (w:World) (g:Sl .u32 w c xs) (i:Sl .u32 w d a) (l:Ok ai xs) (m:Ok ai a):
 Calls prog 88 #[.agg #[.bool neg,c,d]] w fun e w'=>e=.returned (.int .i64 (fH neg xs a))/\zZ w w':=by
 unfold fH;by_cases f:128<xs.length\/128<a.length
 ·rw[if_pos f];exact wm neg xs a c d w g i f
 rw[if_neg f];by_cases b:bm xs=true\/bm a=true\/a.length=0
 ·rw[if_pos b];exact tG neg xs a c d w g i (by omega) (by omega) b
 rw[if_neg b];have j:bm xs=false:=by cases h:bm xs with|false=>rfl|true=>exact absurd (.inl h) b
 have k:bm a=false:=by cases h:bm a with|false=>rfl|true=>exact absurd (.inr (.inl h)) b
 exact tH neg xs a c d w g i l m (by omega) (by omega) j k (Nat.pos_of_ne_zero fun h=>b (.inr (.inr h)))
theorem cY (f:Bool) (A B:Option Addr) (c d l m:Nat) (w:World) (n:c<=9223372036854775807) (o:d<=9223372036854775807):
 Calls prog 87 #[.agg #[.bool f,.slice A c l,.slice B d m]] w fun e w'=>e=.returned (.bool (bf f c d))/\zZ w w':=by
 have i:Yd (f=true->bf f c d=false):=fun h=>by subst h;rfl
 have j:Yd (f=false->c=0->d=0->bf f c d=true):=fun h a b=>by subst h a b;rfl
 have g:Yd (c≠0\/d≠0->bf f c d=false):=fun h=>by unfold bf;rw[decide_eq_false (by omega)];simp
 generalize bf f c d=z at*;cases f with
 |true=>
  obtain rfl:=i.o rfl;go_enter func87,ntmps87;go_wp2_with fail;go_ret;exact⟨rfl,ae w _⟩
 |false=>
  by_cases a:c=0
  ·subst a;by_cases b:d=0
   ·subst b;obtain rfl:=j.o rfl rfl rfl;go_enter func87,ntmps87;go_wp2_with fail;go_ret;exact⟨rfl,ae w _⟩
   ·obtain rfl:=g.o (.inr b);have k:((d:Int)==0)=false:=zL (by omega);go_enter func87,ntmps87;go_wp2_with fail;go_ret;exact⟨rfl,ae w _⟩
  ·obtain rfl:=g.o (.inl a);have k:((c:Int)==0)=false:=zL (by omega);go_enter func87,ntmps87;go_wp2_with fail;go_ret;exact⟨rfl,ae w _⟩
theorem xx {w:World} {t:Tm} {cs:List Value} (h:TC w t cs):∀ (W:World) (f:Nat),zZ w W->f<1000000->
 Calls prog 73 #[.agg cs.toArray,.int .i64 (f:Int)] W fun e i=>e=.returned (.int .i64 ((min (f+t.count) 1000000:Nat):Int))/\zZ W i:=by
 induction h with
 |mk k v s n a A B Ar M cs hk hv hs hA hB hn C hm hr ha ih=>
  intro W f hW a2;have HR:=zH hr;have HA:=zH ha;have IH:=zH ih;have r:Yd ((Tm.mk k v s n a).count=1+am a):=rfl;unfold maxLen at hm;have x:=zH hW;generalize (Tm.mk k v s n a).count=ct at*;generalize n.neg=ng at*;obtain⟨A1,q1,rfl,_⟩:=hA;obtain⟨B1,q2,rfl,_⟩:=hB;generalize n.num.length=m1 at*;generalize n.den.length=m2 at*;clear hr ha ih hn hk hv hs hW;obtain⟨l,Q⟩:∃ l,a.length=l:=⟨_,rfl⟩;rw[Q]at C ⊢;have X:=zH Q;clear Q;have I:=zH (ae W (.cells #[.int .i64 k,.int .i64 v,.string s,.bool ng,.slice A1 m1 q1,.slice B1 m2 q2,.slice Ar l M] 27));go_enter func73,ntmps73;go_wp2_with fail
  go_loopg [1,12] l (fun gk s1 T wr=>∃ j c:Nat,gk+j=l/\T=.int .i64 (j:Int)/\s1=.int .i64 (c:Int)/\c<=1000000/\Yd (c=min (f+1+am (a.take j)) 1000000)/\Yd (zZ W wr))
  case atStart=>exact⟨0,f+1,by omega,rfl,rfl,by omega,by unfold Yd;rw[List.take_zero];simp only[am];omega,I.o⟩
  case round=>
   obtain⟨j,c,a0,rfl,rfl,m,J,q⟩:=hrel;by_cases hj:j<l
   ·have p:j<a.length:=by rw[X.o];exact hj
    have g:=x.o.trans (q.o.mono x.o.size);obtain⟨b,o,k',v',s',D,U,n2,Z,V,m3,d2,Y,xl,xc,O,P,a1,e0,e1,e2,e3,e4,e5,e6⟩:=aZ HR.o HA.o g p;subst O;by_cases hc:(1000000:Int)<=(c:Int)
    ·have L:=zH m;clear m;go_wp2_with fail;go_ret;have m:=L.o;have N:=cH a j;have y:=J.o;have h3:=r.o;refine⟨?_,q.o.alloc q.o.size _⟩;have e:min (f+ct) 1000000=1000000:=by omega
     rw[e];rfl
    ·
     have d:Yd (∀ i,zZ wr i->Calls prog 73 #[.agg (zX k' v' s' D U n2 Z V m3 d2 Y xl xc).toArray,.int .i64 (c:Int)] i fun e w'=>e=.returned (.int .i64 ((min (c+(a[j]).count) 1000000:Nat):Int))/\zZ i w'):=fun i F=>by
      have:=IH.o j p i c (g.trans (F.mono g.size)) (by omega);rw[P]at this;exact this
     go_wp2_with fail;refine (d.o _ (by exact ae _ _)).mono ?_;rintro e w3 ⟨rfl,F⟩;have G:=zH (q.o.trans (((ae wr (.cells #[.int .i64 k',.int .i64 v',.string s',.bool D,.slice U n2 Z,.slice V m3 d2,.slice Y xl xc] 27)).trans (F.mono (ae wr _).size)).mono q.o.size));have N:=bq a p;generalize (a[j]).count=cj at*;have y:=J.o;obtain⟨z,hz,E⟩:∃ z:Nat,(min (c+cj) 1000000:Nat)=z/\Yd (z=min (f+1+am (a.take (j+1))) 1000000)/\z<=1000000:=⟨_,rfl,by show _=_;rw[N];omega,by omega⟩;have S:=E.2;have E:=E.1;rw[hz];clear hz N y F e0 e1 e2 e3 e4 e5 e6 d;go_wp2_with fail
     go_roundg (gk-1)
     case measure=>omega
     case rel=>exact⟨j+1,z,by omega,by go_num,rfl,S,E,G.o⟩
   ·obtain rfl:j=l:=by omega
    have y:=J.o;rw[zG (by rw[X.o];exact zN _),Nat.add_assoc,<-r.o]at y;subst y;go_wp2_with fail;go_ret;exact⟨rfl,q.o⟩
theorem wn {w:World} {v:Int} {s:ByteArray} {n:LN} {args:List Tm} {A B:Value} {Ar:Option Addr} {g:Nat} {cs:Nat->List Value} 
 (hs:s.size<=maxLen) (hA:Sl .u32 w A n.num) (hB:Sl .u32 w B n.den) (hn:n.ok) (E:args.length<=g) (hm:g<=maxLen)
 (hr:0<args.length->∃ b o,Ar=some ⟨b,o,none⟩/\b<w.heap.size/\∀ i,i<args.length->∀ j,j<7->w.cell? ⟨b,o+i*7+j,none⟩=(cs i)[j]?)
 (ha:∀ i (h:i<args.length),TC w args[i] (cs i))
 (ih:∀ i (h:i<args.length) (W:World),zZ w W->Calls prog 66 #[.agg (cs i).toArray] W fun e d=>e=.returned (.int .i64 (args[i]).err0)/\zZ W d)
 (W:World) (hW:zZ w W):Calls prog 66 #[.agg #[.int .i64 1,.int .i64 v,.string s,.bool n.neg,A,B,.slice Ar args.length g]] W fun e d=>e=.returned (.int .i64 (Tm.mk 1 v s n args).err0)/\zZ W d:=by
 have p:Yd (∀ d:World,zZ w d->Calls prog 88 #[.agg #[.bool n.neg,A,B]] d fun e w'=>e=.returned (.int .i64 n.err)/\zZ d w'):=fun d hb=>eH n.neg n.num n.den A B d (hA.to hb) (hB.to hb) hn.1 hn.2;have a3:0<=n.err/\n.err<=3:=b9 _ _ _;have HR:=zH hr;have HA:=zH ha;have IH:=zH ih;have a:Yd ((Tm.mk 1 v s n args).err0=if au 1 v s n.neg n.num.length n.den.length n.err args.length=0 then bH args else au 1 v s n.neg n.num.length n.den.length n.err args.length):=by unfold Yd;rw[Tm.err0]
 obtain⟨J,Y,rfl,a2,C,_⟩:=hA;obtain⟨L,Z,rfl,k,D,_⟩:=hB;unfold maxLen at hm C D;have y:=zH hW;have f:Yd (∀ d:World,Calls prog 87 #[.agg #[.bool n.neg,.slice J n.num.length Y,.slice L n.den.length Z]] d fun e w'=>e=.returned (.bool (bf n.neg n.num.length n.den.length))/\zZ d w'):=fun d=>cY n.neg J L _ _ Y Z d (by omega) (by omega);have a5:s.toList=[]->s.size=0:=aL;generalize (Tm.mk 1 v s n args).err0=e0 at*;generalize n.err=er at*;generalize n.neg=X at*;generalize n.num.length=U at*;generalize n.den.length=V at*;obtain⟨zb,c⟩:∃ zb,Yd (bf X U V=zb):=⟨_,rfl⟩;rw[c.o]at f;clear hr ha ih hn hs hW a2 C k D;obtain⟨l,hl⟩:∃ l,args.length=l:=⟨_,rfl⟩;rw[hl]at E a ⊢;have M:=zH hl;clear hl;have t:=zH (ae W (.cells #[.int .i64 1,.int .i64 v,.string s,.bool X,.slice J U Y,.slice L V Z,.slice Ar l g] 27));have x:=zH (ah.new W 27 #[.int .i64 1,.int .i64 v,.string s,.bool X,.slice J U Y,.slice L V Z,.slice Ar l g]);go_enter func66,ntmps66;go_wp2_with fail
 all_goals first
  |(go_ret
    refine⟨congrArg (fun z=>Ending.returned (Value.int .i64 z)) ?_,ae W _⟩;rw[a.o];clear p HR HA IH a y f M t x;have G:=c.o;clear c;unfold au
    (repeat' split)<;>first|rfl|omega|(simp_all;done)|(simp_all;omega))
  |skip
 refine (f.o _).mono ?_;rintro e w1 ⟨rfl,k⟩;have m:Yd (zZ W w1):=(ae W _).trans (k.mono (ae W _).size);have r:=(ah.new W 27 _).to k;have N:=r.cell 0;have q:=r.cell 1;have O:=r.cell 2;have P:=r.cell 3;have Q:=r.cell 4;have S:=r.cell 5;have T:=r.cell 6;simp only[L3]at N q O P Q S T;clear k r;go_wp2_with fail
 all_goals first
  |(go_ret
    refine⟨congrArg (fun z=>Ending.returned (Value.int .i64 z)) ?_,m.o⟩;rw[a.o];clear p HR HA IH a y f M t x m N q O P Q S T;have G:=c.o;clear c;unfold au
    (repeat' split)<;>first|rfl|omega|(simp_all;done)|(simp_all;omega))
  |skip
 have F:au 1 v s X U V er l=0:=by
  clear p HR HA IH a y f M t x m N q O P Q S T;have G:=c.o;clear c;unfold au
  (repeat' split)<;>first|rfl|omega|(simp_all;done)|(simp_all;omega)
 have a0:Yd (e0=bH args):=by unfold Yd;rw[a.o,if_pos F]
 clear F a f p N q O P Q S T
 go_loopg [128] l (fun gk I wr=>∃ j:Nat,gk+j=l/\I=.int .i64 (j:Int)/\Yd (bH (args.take j)=0)/\Yd (zZ W wr))
 case atStart=>exact⟨0,by omega,rfl,by unfold Yd;rw[List.take_zero];rfl,m.o⟩
 case round=>
  obtain⟨j,a4,rfl,HC,HB⟩:=hrel;by_cases hj:j<l
  ·exfalso;omega
  ·obtain rfl:j=l:=by omega
   have a1:Yd (e0=0):=by unfold Yd;rw[a0.o];have h:=HC.o;rw[zG (by rw[M.o];exact zN _)]at h;exact h
   go_wp2_with fail;go_ret;rw[a1.o];exact⟨rfl,HB.o⟩
theorem ws {w:World} {v:Int} {s:ByteArray} {n:LN} {args:List Tm} {A B:Value} {Ar:Option Addr} {m:Nat} {cs:Nat->List Value} 
 (hs:s.size<=maxLen) (hA:Sl .u32 w A n.num) (hB:Sl .u32 w B n.den) (hn:n.ok) (E:args.length<=m) (hm:m<=maxLen)
 (hr:0<args.length->∃ b o,Ar=some ⟨b,o,none⟩/\b<w.heap.size/\∀ i,i<args.length->∀ j,j<7->w.cell? ⟨b,o+i*7+j,none⟩=(cs i)[j]?)
 (ha:∀ i (h:i<args.length),TC w args[i] (cs i))
 (ih:∀ i (h:i<args.length) (W:World),zZ w W->Calls prog 66 #[.agg (cs i).toArray] W fun e d=>e=.returned (.int .i64 (args[i]).err0)/\zZ W d)
 (W:World) (hW:zZ w W):Calls prog 66 #[.agg #[.int .i64 2,.int .i64 v,.string s,.bool n.neg,A,B,.slice Ar args.length m]] W fun e d=>e=.returned (.int .i64 (Tm.mk 2 v s n args).err0)/\zZ W d:=by
 have f:Yd (∀ d:World,zZ w d->Calls prog 88 #[.agg #[.bool n.neg,A,B]] d fun e w'=>e=.returned (.int .i64 n.err)/\zZ d w'):=fun d hb=>eH n.neg n.num n.den A B d (hA.to hb) (hB.to hb) hn.1 hn.2;have a3:0<=n.err/\n.err<=3:=b9 _ _ _;have HR:=zH hr;have HA:=zH ha;have IH:=zH ih;have a:Yd ((Tm.mk 2 v s n args).err0=if au 2 v s n.neg n.num.length n.den.length n.err args.length=0 then bH args else au 2 v s n.neg n.num.length n.den.length n.err args.length):=by unfold Yd;rw[Tm.err0]
 obtain⟨J,Y,rfl,a2,C,_⟩:=hA;obtain⟨L,Z,rfl,p,D,_⟩:=hB;unfold maxLen at hm C D;have k:=zH hW;have g:Yd (∀ d:World,Calls prog 87 #[.agg #[.bool n.neg,.slice J n.num.length Y,.slice L n.den.length Z]] d fun e w'=>e=.returned (.bool (bf n.neg n.num.length n.den.length))/\zZ d w'):=fun d=>cY n.neg J L _ _ Y Z d (by omega) (by omega);have a5:s.toList=[]->s.size=0:=aL;generalize (Tm.mk 2 v s n args).err0=e0 at*;generalize n.err=er at*;generalize n.neg=X at*;generalize n.num.length=U at*;generalize n.den.length=V at*;obtain⟨zb,c⟩:∃ zb,Yd (bf X U V=zb):=⟨_,rfl⟩;rw[c.o]at g;clear hr ha ih hn hs hW a2 C p D;obtain⟨l,hl⟩:∃ l,args.length=l:=⟨_,rfl⟩;rw[hl]at E a ⊢;have M:=zH hl;clear hl;have x:=zH (ae W (.cells #[.int .i64 2,.int .i64 v,.string s,.bool X,.slice J U Y,.slice L V Z,.slice Ar l m] 27));have y:=zH (ah.new W 27 #[.int .i64 2,.int .i64 v,.string s,.bool X,.slice J U Y,.slice L V Z,.slice Ar l m]);go_enter func66,ntmps66;go_wp2_with fail
 all_goals first
  |(go_ret
    refine⟨congrArg (fun z=>Ending.returned (Value.int .i64 z)) ?_,ae W _⟩;rw[a.o];clear f HR HA IH a k g M x y;have G:=c.o;clear c;unfold au
    (repeat' split)<;>first|rfl|omega|(simp_all;done)|(simp_all;omega))
  |skip
 refine (f.o _ (by exact k.o.trans ((ae W _).mono k.o.size))).mono ?_;rintro e w1 ⟨rfl,p⟩;have q:Yd (zZ W w1):=(ae W _).trans (p.mono (ae W _).size);have t:=(ah.new W 27 _).to p;have N:=t.cell 0;have r:=t.cell 1;have O:=t.cell 2;have P:=t.cell 3;have Q:=t.cell 4;have S:=t.cell 5;have T:=t.cell 6;simp only[L3]at N r O P Q S T;clear p t;go_wp2_with fail
 all_goals first
  |(go_ret
    refine⟨congrArg (fun z=>Ending.returned (Value.int .i64 z)) ?_,q.o⟩;rw[a.o];clear f HR HA IH a k g M x y q N r O P Q S T;have G:=c.o;clear c;unfold au
    (repeat' split)<;>first|rfl|omega|(simp_all;done)|(simp_all;omega))
  |skip
 have F:au 2 v s X U V er l=0:=by
  clear f HR HA IH a k g M x y q N r O P Q S T;have G:=c.o;clear c;unfold au
  (repeat' split)<;>first|rfl|omega|(simp_all;done)|(simp_all;omega)
 have a0:Yd (e0=bH args):=by unfold Yd;rw[a.o,if_pos F]
 clear F a g f N r O P Q S T
 go_loopg [128] l (fun gk I wr=>∃ j:Nat,gk+j=l/\I=.int .i64 (j:Int)/\Yd (bH (args.take j)=0)/\Yd (zZ W wr))
 case atStart=>exact⟨0,by omega,rfl,by unfold Yd;rw[List.take_zero];rfl,q.o⟩
 case round=>
  obtain⟨j,a4,rfl,HC,HB⟩:=hrel;by_cases hj:j<l
  ·exfalso;omega
  ·obtain rfl:j=l:=by omega
   have a1:Yd (e0=0):=by unfold Yd;rw[a0.o];have h:=HC.o;rw[zG (by rw[M.o];exact zN _)]at h;exact h
   go_wp2_with fail;go_ret;rw[a1.o];exact⟨rfl,HB.o⟩
theorem qX {w:World} {v:Int} {s:ByteArray} {n:LN} {args:List Tm} {A B:Value} {Ar:Option Addr} {g:Nat} {cs:Nat->List Value} 
 (hs:s.size<=maxLen) (hA:Sl .u32 w A n.num) (hB:Sl .u32 w B n.den) (hn:n.ok) (E:args.length<=g) (hm:g<=maxLen)
 (hr:0<args.length->∃ b o,Ar=some ⟨b,o,none⟩/\b<w.heap.size/\∀ i,i<args.length->∀ j,j<7->w.cell? ⟨b,o+i*7+j,none⟩=(cs i)[j]?)
 (ha:∀ i (h:i<args.length),TC w args[i] (cs i))
 (ih:∀ i (h:i<args.length) (W:World),zZ w W->Calls prog 66 #[.agg (cs i).toArray] W fun e d=>e=.returned (.int .i64 (args[i]).err0)/\zZ W d)
 (W:World) (hW:zZ w W):Calls prog 66 #[.agg #[.int .i64 3,.int .i64 v,.string s,.bool n.neg,A,B,.slice Ar args.length g]] W fun e d=>e=.returned (.int .i64 (Tm.mk 3 v s n args).err0)/\zZ W d:=by
 have p:Yd (∀ d:World,zZ w d->Calls prog 88 #[.agg #[.bool n.neg,A,B]] d fun e w'=>e=.returned (.int .i64 n.err)/\zZ d w'):=fun d hb=>eH n.neg n.num n.den A B d (hA.to hb) (hB.to hb) hn.1 hn.2;have a3:0<=n.err/\n.err<=3:=b9 _ _ _;have HR:=zH hr;have HA:=zH ha;have IH:=zH ih;have a:Yd ((Tm.mk 3 v s n args).err0=if au 3 v s n.neg n.num.length n.den.length n.err args.length=0 then bH args else au 3 v s n.neg n.num.length n.den.length n.err args.length):=by unfold Yd;rw[Tm.err0]
 obtain⟨J,Y,rfl,a2,C,_⟩:=hA;obtain⟨L,Z,rfl,k,D,_⟩:=hB;unfold maxLen at hm C D;have y:=zH hW;have f:Yd (∀ d:World,Calls prog 87 #[.agg #[.bool n.neg,.slice J n.num.length Y,.slice L n.den.length Z]] d fun e w'=>e=.returned (.bool (bf n.neg n.num.length n.den.length))/\zZ d w'):=fun d=>cY n.neg J L _ _ Y Z d (by omega) (by omega);have a5:s.toList=[]->s.size=0:=aL;generalize (Tm.mk 3 v s n args).err0=e0 at*;generalize n.err=er at*;generalize n.neg=X at*;generalize n.num.length=U at*;generalize n.den.length=V at*;obtain⟨zb,c⟩:∃ zb,Yd (bf X U V=zb):=⟨_,rfl⟩;rw[c.o]at f;clear hr ha ih hn hs hW a2 C k D;obtain⟨l,hl⟩:∃ l,args.length=l:=⟨_,rfl⟩;rw[hl]at E a ⊢;have M:=zH hl;clear hl;have t:=zH (ae W (.cells #[.int .i64 3,.int .i64 v,.string s,.bool X,.slice J U Y,.slice L V Z,.slice Ar l g] 27));have x:=zH (ah.new W 27 #[.int .i64 3,.int .i64 v,.string s,.bool X,.slice J U Y,.slice L V Z,.slice Ar l g]);go_enter func66,ntmps66;go_wp2_with fail
 all_goals first
  |(go_ret
    refine⟨congrArg (fun z=>Ending.returned (Value.int .i64 z)) ?_,ae W _⟩;rw[a.o];clear p HR HA IH a y f M t x;have G:=c.o;clear c;unfold au
    (repeat' split)<;>first|rfl|omega|(simp_all;done)|(simp_all;omega))
  |skip
 refine (f.o _).mono ?_;rintro e w1 ⟨rfl,k⟩;have m:Yd (zZ W w1):=(ae W _).trans (k.mono (ae W _).size);have r:=(ah.new W 27 _).to k;have N:=r.cell 0;have q:=r.cell 1;have O:=r.cell 2;have P:=r.cell 3;have Q:=r.cell 4;have S:=r.cell 5;have T:=r.cell 6;simp only[L3]at N q O P Q S T;clear k r;go_wp2_with fail
 all_goals first
  |(go_ret
    refine⟨congrArg (fun z=>Ending.returned (Value.int .i64 z)) ?_,m.o⟩;rw[a.o];clear p HR HA IH a y f M t x m N q O P Q S T;have G:=c.o;clear c;unfold au
    (repeat' split)<;>first|rfl|omega|(simp_all;done)|(simp_all;omega))
  |skip
 have F:au 3 v s X U V er l=0:=by
  clear p HR HA IH a y f M t x m N q O P Q S T;have G:=c.o;clear c;unfold au
  (repeat' split)<;>first|rfl|omega|(simp_all;done)|(simp_all;omega)
 have a0:Yd (e0=bH args):=by unfold Yd;rw[a.o,if_pos F]
 clear F a f p N q O P Q S T
 go_loopg [128] l (fun gk I wr=>∃ j:Nat,gk+j=l/\I=.int .i64 (j:Int)/\Yd (bH (args.take j)=0)/\Yd (zZ W wr))
 case atStart=>exact⟨0,by omega,rfl,by unfold Yd;rw[List.take_zero];rfl,m.o⟩
 case round=>
  obtain⟨j,a4,rfl,HC,HB⟩:=hrel;by_cases hj:j<l
  ·exfalso;omega
  ·obtain rfl:j=l:=by omega
   have a1:Yd (e0=0):=by unfold Yd;rw[a0.o];have h:=HC.o;rw[zG (by rw[M.o];exact zN _)]at h;exact h
   go_wp2_with fail;go_ret;rw[a1.o];exact⟨rfl,HB.o⟩
theorem tF {w:World} {v:Int} {s:ByteArray} {n:LN} {args:List Tm} {A B:Value} {Ar:Option Addr} {g:Nat} {cs:Nat->List Value} 
 (hs:s.size<=maxLen) (hA:Sl .u32 w A n.num) (hB:Sl .u32 w B n.den) (hn:n.ok) (E:args.length<=g) (hm:g<=maxLen)
 (hr:0<args.length->∃ b o,Ar=some ⟨b,o,none⟩/\b<w.heap.size/\∀ i,i<args.length->∀ j,j<7->w.cell? ⟨b,o+i*7+j,none⟩=(cs i)[j]?)
 (ha:∀ i (h:i<args.length),TC w args[i] (cs i))
 (ih:∀ i (h:i<args.length) (W:World),zZ w W->Calls prog 66 #[.agg (cs i).toArray] W fun e d=>e=.returned (.int .i64 (args[i]).err0)/\zZ W d)
 (W:World) (hW:zZ w W):Calls prog 66 #[.agg #[.int .i64 4,.int .i64 v,.string s,.bool n.neg,A,B,.slice Ar args.length g]] W fun e d=>e=.returned (.int .i64 (Tm.mk 4 v s n args).err0)/\zZ W d:=by
 have p:Yd (∀ d:World,zZ w d->Calls prog 88 #[.agg #[.bool n.neg,A,B]] d fun e w'=>e=.returned (.int .i64 n.err)/\zZ d w'):=fun d hb=>eH n.neg n.num n.den A B d (hA.to hb) (hB.to hb) hn.1 hn.2;have a3:0<=n.err/\n.err<=3:=b9 _ _ _;have HR:=zH hr;have HA:=zH ha;have IH:=zH ih;have a:Yd ((Tm.mk 4 v s n args).err0=if au 4 v s n.neg n.num.length n.den.length n.err args.length=0 then bH args else au 4 v s n.neg n.num.length n.den.length n.err args.length):=by unfold Yd;rw[Tm.err0]
 obtain⟨J,Y,rfl,a2,C,_⟩:=hA;obtain⟨L,Z,rfl,k,D,_⟩:=hB;unfold maxLen at hm C D;have y:=zH hW;have f:Yd (∀ d:World,Calls prog 87 #[.agg #[.bool n.neg,.slice J n.num.length Y,.slice L n.den.length Z]] d fun e w'=>e=.returned (.bool (bf n.neg n.num.length n.den.length))/\zZ d w'):=fun d=>cY n.neg J L _ _ Y Z d (by omega) (by omega);have a5:s.toList=[]->s.size=0:=aL;generalize (Tm.mk 4 v s n args).err0=e0 at*;generalize n.err=er at*;generalize n.neg=X at*;generalize n.num.length=U at*;generalize n.den.length=V at*;obtain⟨zb,c⟩:∃ zb,Yd (bf X U V=zb):=⟨_,rfl⟩;rw[c.o]at f;clear hr ha ih hn hs hW a2 C k D;obtain⟨l,hl⟩:∃ l,args.length=l:=⟨_,rfl⟩;rw[hl]at E a ⊢;have M:=zH hl;clear hl;have t:=zH (ae W (.cells #[.int .i64 4,.int .i64 v,.string s,.bool X,.slice J U Y,.slice L V Z,.slice Ar l g] 27));have x:=zH (ah.new W 27 #[.int .i64 4,.int .i64 v,.string s,.bool X,.slice J U Y,.slice L V Z,.slice Ar l g]);go_enter func66,ntmps66;go_wp2_with fail
 all_goals first
  |(go_ret
    refine⟨congrArg (fun z=>Ending.returned (Value.int .i64 z)) ?_,ae W _⟩;rw[a.o];clear p HR HA IH a y f M t x;have G:=c.o;clear c;unfold au
    (repeat' split)<;>first|rfl|omega|(simp_all;done)|(simp_all;omega))
  |skip
 refine (f.o _).mono ?_;rintro e w1 ⟨rfl,k⟩;have m:Yd (zZ W w1):=(ae W _).trans (k.mono (ae W _).size);have r:=(ah.new W 27 _).to k;have N:=r.cell 0;have q:=r.cell 1;have O:=r.cell 2;have P:=r.cell 3;have Q:=r.cell 4;have S:=r.cell 5;have T:=r.cell 6;simp only[L3]at N q O P Q S T;clear k r;go_wp2_with fail
 all_goals first
  |(go_ret
    refine⟨congrArg (fun z=>Ending.returned (Value.int .i64 z)) ?_,m.o⟩;rw[a.o];clear p HR HA IH a y f M t x m N q O P Q S T;have G:=c.o;clear c;unfold au
    (repeat' split)<;>first|rfl|omega|(simp_all;done)|(simp_all;omega))
  |skip
 have F:au 4 v s X U V er l=0:=by
  clear p HR HA IH a y f M t x m N q O P Q S T;have G:=c.o;clear c;unfold au
  (repeat' split)<;>first|rfl|omega|(simp_all;done)|(simp_all;omega)
 have a0:Yd (e0=bH args):=by unfold Yd;rw[a.o,if_pos F]
 clear F a f p N q O P Q S T
 go_loopg [128] l (fun gk I wr=>∃ j:Nat,gk+j=l/\I=.int .i64 (j:Int)/\Yd (bH (args.take j)=0)/\Yd (zZ W wr))
 case atStart=>exact⟨0,by omega,rfl,by unfold Yd;rw[List.take_zero];rfl,m.o⟩
 case round=>
  obtain⟨j,a4,rfl,HC,HB⟩:=hrel;by_cases hj:j<l
  ·exfalso;omega
  ·obtain rfl:j=l:=by omega
   have a1:Yd (e0=0):=by unfold Yd;rw[a0.o];have h:=HC.o;rw[zG (by rw[M.o];exact zN _)]at h;exact h
   go_wp2_with fail;go_ret;rw[a1.o];exact⟨rfl,HB.o⟩
theorem tE {w:World} {v:Int} {s:ByteArray} {n:LN} {args:List Tm} {A B:Value} {Ar:Option Addr} {m:Nat} {cs:Nat->List Value} 
 (hs:s.size<=maxLen) (hA:Sl .u32 w A n.num) (hB:Sl .u32 w B n.den) (hn:n.ok) (P:args.length<=m) (hm:m<=maxLen)
 (hr:0<args.length->∃ b o,Ar=some ⟨b,o,none⟩/\b<w.heap.size/\∀ i,i<args.length->∀ j,j<7->w.cell? ⟨b,o+i*7+j,none⟩=(cs i)[j]?)
 (ha:∀ i (h:i<args.length),TC w args[i] (cs i))
 (ih:∀ i (h:i<args.length) (W:World),zZ w W->Calls prog 66 #[.agg (cs i).toArray] W fun e a=>e=.returned (.int .i64 (args[i]).err0)/\zZ W a)
 (W:World) (hW:zZ w W):Calls prog 66 #[.agg #[.int .i64 5,.int .i64 v,.string s,.bool n.neg,A,B,.slice Ar args.length m]] W fun e a=>e=.returned (.int .i64 (Tm.mk 5 v s n args).err0)/\zZ W a:=by
 have r:Yd (∀ a:World,zZ w a->Calls prog 88 #[.agg #[.bool n.neg,A,B]] a fun e V=>e=.returned (.int .i64 n.err)/\zZ a V):=fun a I=>eH n.neg n.num n.den A B a (hA.to I) (hB.to I) hn.1 hn.2;have a4:0<=n.err/\n.err<=3:=b9 _ _ _;have HR:=zH hr;have Z:=zH ha;have IH:=zH ih;have c:Yd ((Tm.mk 5 v s n args).err0=if au 5 v s n.neg n.num.length n.den.length n.err args.length=0 then bH args else au 5 v s n.neg n.num.length n.den.length n.err args.length):=by unfold Yd;rw[Tm.err0]
 obtain⟨X,q1,rfl,a3,N,_⟩:=hA;obtain⟨Y,q2,rfl,p,O,_⟩:=hB;unfold maxLen at hm N O;have k:=zH hW;have f:Yd (∀ a:World,Calls prog 87 #[.agg #[.bool n.neg,.slice X n.num.length q1,.slice Y n.den.length q2]] a fun e V=>e=.returned (.bool (bf n.neg n.num.length n.den.length))/\zZ a V):=fun a=>cY n.neg X Y _ _ q1 q2 a (by omega) (by omega);have a8:s.toList=[]->s.size=0:=aL;generalize (Tm.mk 5 v s n args).err0=e0 at*;generalize n.err=er at*;generalize n.neg=ng at*;generalize n.num.length=m1 at*;generalize n.den.length=m2 at*;obtain⟨zb,d⟩:∃ zb,Yd (bf ng m1 m2=zb):=⟨_,rfl⟩;rw[d.o]at f;clear hr ha ih hn hs hW a3 N p O;obtain⟨l,hl⟩:∃ l,args.length=l:=⟨_,rfl⟩;rw[hl]at P c ⊢;have L:=zH hl;clear hl;have C:=zH (ae W (.cells #[.int .i64 5,.int .i64 v,.string s,.bool ng,.slice X m1 q1,.slice Y m2 q2,.slice Ar l m] 27));have E:=zH (ah.new W 27 #[.int .i64 5,.int .i64 v,.string s,.bool ng,.slice X m1 q1,.slice Y m2 q2,.slice Ar l m]);go_enter func66,ntmps66;go_wp2_with fail
 all_goals first
  |(go_ret
    refine⟨congrArg (fun z=>Ending.returned (Value.int .i64 z)) ?_,ae W _⟩;rw[c.o];clear r HR Z IH c k f L C E;have S:=d.o;clear d;unfold au
    (repeat' split)<;>first|rfl|omega|(simp_all;done)|(simp_all;omega))
  |skip
 refine (f.o _).mono ?_;rintro e w1 ⟨rfl,p⟩;have q:Yd (zZ W w1):=(ae W _).trans (p.mono (ae W _).size);have y:=(ah.new W 27 _).to p;have c0:=y.cell 0;have t:=y.cell 1;have G:=y.cell 2;have c3:=y.cell 3;have c4:=y.cell 4;have c5:=y.cell 5;have c6:=y.cell 6;simp only[L3]at c0 t G c3 c4 c5 c6;clear p y;go_wp2_with fail
 all_goals first
  |(go_ret
    refine⟨congrArg (fun z=>Ending.returned (Value.int .i64 z)) ?_,q.o⟩;rw[c.o];clear r HR Z IH c k f L C E q c0 t G c3 c4 c5 c6;have S:=d.o;clear d;unfold au
    (repeat' split)<;>first|rfl|omega|(simp_all;done)|(simp_all;omega))
  |skip
 have Q:au 5 v s ng m1 m2 er l=0:=by
  clear r HR Z IH c k f L C E q c0 t G c3 c4 c5 c6;have S:=d.o;clear d;unfold au
  (repeat' split)<;>first|rfl|omega|(simp_all;done)|(simp_all;omega)
 have M:Yd (e0=bH args):=by unfold Yd;rw[c.o,if_pos Q]
 clear Q c f r c0 t G c3 c4 c5 c6
 go_loopg [128] l (fun gk U wr=>∃ j:Nat,gk+j=l/\U=.int .i64 (j:Int)/\Yd (bH (args.take j)=0)/\Yd (zZ W wr))
 case atStart=>exact⟨0,by omega,rfl,by unfold Yd;rw[List.take_zero];rfl,q.o⟩
 case round=>
  obtain⟨j,a6,rfl,HC,HB⟩:=hrel;by_cases hj:j<l
  ·have x:j<args.length:=by rw[L.o];exact hj
   have D:=k.o.trans (HB.o.mono k.o.size);obtain⟨b,o,k',v',s',T,A2,n2,G,B2,m3,d2,Xr,xl,xc,a2,a5,a7,a1,e1,e2,e3,e4,e5,e6⟩:=aZ HR.o Z.o D x;subst a2;have g:Yd (∀ a,zZ wr a->Calls prog 66 #[.agg (zX k' v' s' T A2 n2 G B2 m3 d2 Xr xl xc).toArray] a fun e V=>e=.returned (.int .i64 (args[j]).err0)/\zZ a V):=fun a I=>by
    have:=IH.o j x a (D.trans (I.mono D.size));rw[a5]at this;exact this
   have a4:=Tm.err0_bd args[j];have HT:=zH (fun h=>nL args x HC.o h);have HN:=zH (jO args x HC.o);generalize (args[j]).err0=ej at*;go_wp2_with fail;refine (g.o _ (by exact ae _ _)).mono ?_;rintro e w3 ⟨rfl,I⟩;have J:=zH (HB.o.trans (((ae wr (.cells #[.int .i64 k',.int .i64 v',.string s',.bool T,.slice A2 n2 G,.slice B2 m3 d2,.slice Xr xl xc] 27)).trans (I.mono (ae wr _).size)).mono HB.o.size));clear I a1 e1 e2 e3 e4 e5 e6 g;by_cases he:ej=0
   ·have hz:(ej != 0)=false:=by rw[he];rfl
    have a0:Yd (bH (args.take (j+1))=0):=by unfold Yd;rw[HN.o,he]
    go_wp2_with fail
    go_roundg (gk-1)
    case measure=>omega
    case rel=>exact⟨j+1,by omega,by go_num,a0,J.o⟩
   ·have hz:(ej != 0)=true:=by rw[bne_iff_ne];exact he
    have F:Yd (e0=ej):=by unfold Yd;rw[M.o];exact HT.o he
    go_wp2_with fail;go_ret;rw[F.o];exact⟨rfl,J.o⟩
  ·obtain rfl:j=l:=by omega
   have F:Yd (e0=0):=by unfold Yd;rw[M.o];have h:=HC.o;rw[zG (by rw[L.o];exact zN _)]at h;exact h
   go_wp2_with fail;go_ret;rw[F.o];exact⟨rfl,HB.o⟩
theorem qW {w:World} {k:Int} {v:Int} {s:ByteArray} {n:LN} {args:List Tm} {A B:Value} {Ar:Option Addr} {c:Nat} {cs:Nat->List Value} (h1:k≠1) (h2:k≠2) (h3:k≠3) (h4:k≠4) (h5:k≠5) 
 (hs:s.size<=maxLen) (Q:Sl .u32 w A n.num) (S:Sl .u32 w B n.den) (L:n.ok) (q:args.length<=c) (hm:c<=maxLen)
 (X:0<args.length->∃ b o,Ar=some ⟨b,o,none⟩/\b<w.heap.size/\∀ i,i<args.length->∀ j,j<7->w.cell? ⟨b,o+i*7+j,none⟩=(cs i)[j]?)
 (U:∀ i (h:i<args.length),TC w args[i] (cs i))
 (Y:∀ i (h:i<args.length) (W:World),zZ w W->Calls prog 66 #[.agg (cs i).toArray] W fun e a=>e=.returned (.int .i64 (args[i]).err0)/\zZ W a)
 (W:World) (T:zZ w W):Calls prog 66 #[.agg #[.int .i64 k,.int .i64 v,.string s,.bool n.neg,A,B,.slice Ar args.length c]] W fun e a=>e=.returned (.int .i64 (Tm.mk k v s n args).err0)/\zZ W a:=by
 have D:Yd (∀ a:World,zZ w a->Calls prog 88 #[.agg #[.bool n.neg,A,B]] a fun e P=>e=.returned (.int .i64 n.err)/\zZ a P):=fun a V=>eH n.neg n.num n.den A B a (Q.to V) (S.to V) L.1 L.2;have a0:0<=n.err/\n.err<=3:=b9 _ _ _;have HR:=zH X;have HA:=zH U;have IH:=zH Y;have d:Yd ((Tm.mk k v s n args).err0=if au k v s n.neg n.num.length n.den.length n.err args.length=0 then bH args else au k v s n.neg n.num.length n.den.length n.err args.length):=by unfold Yd;rw[Tm.err0]
 obtain⟨r,x,rfl,G,m,_⟩:=Q;obtain⟨t,y,rfl,I,p,_⟩:=S;unfold maxLen at hm m p;have F:=zH T;have g:Yd (∀ a:World,Calls prog 87 #[.agg #[.bool n.neg,.slice r n.num.length x,.slice t n.den.length y]] a fun e P=>e=.returned (.bool (bf n.neg n.num.length n.den.length))/\zZ a P):=fun a=>cY n.neg r t _ _ x y a (by omega) (by omega);have a1:s.toList=[]->s.size=0:=aL;generalize (Tm.mk k v s n args).err0=e0 at*;generalize n.err=er at*;generalize n.neg=O at*;generalize n.num.length=M at*;generalize n.den.length=N at*;obtain⟨Z,f⟩:∃ Z,Yd (bf O M N=Z):=⟨_,rfl⟩;rw[f.o]at g;clear X U Y L hs T G m I p;obtain⟨l,J⟩:∃ l,args.length=l:=⟨_,rfl⟩;rw[J]at q d ⊢;have HL:=zH J;clear J;have C:=zH (ae W (.cells #[.int .i64 k,.int .i64 v,.string s,.bool O,.slice r M x,.slice t N y,.slice Ar l c] 27));have E:=zH (ah.new W 27 #[.int .i64 k,.int .i64 v,.string s,.bool O,.slice r M x,.slice t N y,.slice Ar l c]);have k1:(k==1)=false:=zL h1;have k2:(k==2)=false:=zL h2;have k3:(k==3)=false:=zL h3;have k4:(k==4)=false:=zL h4;have k5:(k==5)=false:=zL h5;have k6:k<1\/5<k:=by omega
 go_enter func66,ntmps66;go_wp2_with fail
 all_goals first
  |(go_ret
    refine⟨congrArg (fun z=>Ending.returned (Value.int .i64 z)) ?_,ae W _⟩;rw[d.o];clear D HR HA IH d F g HL C E;have a2:=f.o;clear f;unfold au
    (repeat' split)<;>first|rfl|omega|(simp_all;done)|(simp_all;omega))
theorem mY {w:World} {t:Tm} {cs:List Value} (h:TC w t cs):∀ (W:World),zZ w W->
 Calls prog 66 #[.agg cs.toArray] W fun e z=>e=.returned (.int .i64 t.err0)/\zZ W z:=by
 induction h with
 |mk k v s n o A B D C cs E F l b c i a g j f m=>
  intro W d;by_cases p:k=1
  ·subst p;exact wn l b c i a g j f m W d
  by_cases q:k=2
  ·subst q;exact ws l b c i a g j f m W d
  by_cases r:k=3
  ·subst r;exact qX l b c i a g j f m W d
  by_cases x:k=4
  ·subst x;exact tF l b c i a g j f m W d
  by_cases y:k=5
  ·subst y;exact tE l b c i a g j f m W d
  exact qW p q r x y l b c i a g j f m W d
theorem oG {w:World} {t:Tm} {cs:List Value} (h:TC w t cs) (W:World) (j:zZ w W):
 Calls prog 44 #[.agg cs.toArray] W fun e b=>e=.returned (.int .i64 ((min t.count 1000000:Nat):Int))/\zZ W b:=by
 have HS:Yd (∀ b,zZ w b->Calls prog 73 #[.agg cs.toArray,.int .i64 0] b fun e B=>e=.returned (.int .i64 ((min t.count 1000000:Nat):Int))/\zZ b B):=fun b r=>by
  have:=xx h b 0 r (by omega);rw[Nat.zero_add]at this;exact this
 have d:=zH j;obtain⟨k,v,s,A,m,y,p,o,x,q,n,l,f,g⟩:=h.form;subst g;obtain⟨z,i⟩:∃ z,Yd (min t.count 1000000=z):=⟨_,rfl⟩;rw[i.o]at HS ⊢;clear h j i;have a:=zH (ae W (.cells #[.int .i64 k,.int .i64 v,.string s,.bool A,.slice m y p,.slice o x q,.slice n l f] 27));go_enter func44,ntmps44;go_wp2_with fail
 first
  |(refine (HS.o _ (by exact d.o.trans (a.o.mono d.o.size))).mono ?_
    rintro e C ⟨rfl,c⟩;go_wp2_with fail;go_ret;exact⟨rfl,a.o.trans (c.mono a.o.size)⟩)
  |(refine (HS.o _ d.o).mono ?_
    rintro e C ⟨rfl,c⟩;go_wp2_with fail;go_ret;exact⟨rfl,c⟩)
theorem kD {w:World} {t:Tm} {cs:List Value} (h:TC w t cs) (W:World) (I:zZ w W):
 Calls prog 42 #[.agg cs.toArray] W fun e a=>e=.returned (.int .i64 t.check)/\zZ W a:=by
 have HS:Yd (∀ a,zZ w a->Calls prog 44 #[.agg cs.toArray] a fun e y=>e=.returned (.int .i64 ((min t.count 1000000:Nat):Int))/\zZ a y):=fun a q=>oG h a q;have P:Yd (∀ a,zZ w a->Calls prog 66 #[.agg cs.toArray] a fun e y=>e=.returned (.int .i64 t.err0)/\zZ a y):=fun a q=>mY h a q;have D:Yd (t.check=if 10000<t.count then 3 else t.err0):=rfl;have j:=zH I;obtain⟨k,v,s,N,A,M,F,C,L,G,B,l,i,x⟩:=h.form;subst x;generalize t.check=O at*;generalize t.err0=Y at*;obtain⟨z,E,c⟩:∃ z:Nat,Yd (min t.count 1000000=z)/\(10000<z↔10000<t.count):=⟨_,rfl,by omega⟩;rw[E.o]at HS;generalize t.count=n at*;clear h I E;have f:=zH (ae W (.cells #[.int .i64 k,.int .i64 v,.string s,.bool N,.slice A M F,.slice C L G,.slice B l i] 27));have m:=zH (ah.new W 27 #[.int .i64 k,.int .i64 v,.string s,.bool N,.slice A M F,.slice C L G,.slice B l i]);go_enter func42,ntmps42;go_wp2_with fail;refine (HS.o _ (by exact j.o.trans (f.o.mono j.o.size))).mono ?_;rintro e Z ⟨rfl,g⟩;have b:=zH (f.o.trans (g.mono f.o.size));have d:=m.o.to g;have Q:=d.cell 0;have p:=d.cell 1;have S:=d.cell 2;have T:=d.cell 3;have U:=d.cell 4;have V:=d.cell 5;have X:=d.cell 6;simp only[L3]at Q p S T U V X;clear g d;by_cases J:10000<z
 ·have o:Yd (O=3):=by unfold Yd;rw[D.o,if_pos (c.1 J)]
  clear c;go_wp2_with fail;go_ret;rw[o.o];exact⟨rfl,b.o⟩
 ·have o:Yd (O=Y):=by unfold Yd;rw[D.o,if_neg (fun h=>J (c.2 h))]
  clear c;go_wp2_with fail;refine (P.o _ (by exact j.o.trans (b.o.mono j.o.size))).mono ?_;rintro e w2 ⟨rfl,r⟩;go_wp2_with fail;go_ret;rw[o.o];exact⟨rfl,b.o.trans (r.mono b.o.size)⟩
theorem bB {k v:Int} {s:ByteArray} {n:LN} {args:List Tm} (h:(Tm.mk k v s n args).err0=0):au k v s n.neg n.num.length n.den.length n.err args.length=0/\bH args=0:=by
 rw[Tm.err0]at h;by_cases a:au k v s n.neg n.num.length n.den.length n.err args.length=0
 ·rw[if_pos a]at h;exact⟨a,h⟩
 ·rw[if_neg a]at h;exact absurd h a
theorem dE {l:List Tm} (h:bH l=0) {j:Nat} (b:j<l.length):(l[j]).err0=0:=by
 induction l generalizing j with
 |nil=>cases b
 |cons x l c=>
  rw[bH]at h;by_cases a:x.err0=0
  ·rw[if_pos a]at h;cases j with
   |zero=>exact a
   |succ j=>exact c h (by simpa using b)
  ·rw[if_neg a]at h;exact absurd h a
theorem iJ {c:Bool} {a b:Nat} (h:bf c a b=true):c=false/\a=0/\b=0:=by
 unfold bf at h;simp at h;exact h
theorem al {k v:Int} {s:ByteArray} {i:Bool} {a b:Nat} {l:Int} {f:Nat} (h:au k v s i a b l f=0):(k=2/\v=0/\s.size=0/\l=0/\f=0)\/(k≠2/\i=false/\a=0/\b=0/\((k=1/\0<=v/\v<=1073741824/\s.size=0/\f=0)\/(k=3/\v=0/\s.size<=255/\f=0)\/(k=4/\v=0/\s.size<=4000/\f=0)\/(k=5/\v=0/\s.size<=255/\1<=f/\f<=32))):=by
 unfold au at h;by_cases m:k=1
 ·rw[if_pos m]at h;by_cases e:0<=v/\v<=1073741824/\s.toList=[]/\bf i a b=true/\f=0
  ·have d:=iJ e.2.2.2.1;exact .inr ⟨by omega,d.1,d.2.1,d.2.2,.inl ⟨m,e.1,e.2.1,aL e.2.2.1,e.2.2.2.2⟩⟩
  ·rw[if_neg e]at h;cases h
 ·rw[if_neg m]at h;by_cases e:k=2
  ·rw[if_pos e]at h;by_cases g:v=0/\s.toList=[]/\f=0/\l=0
   ·exact .inl ⟨e,g.1,aL g.2.1,g.2.2.2,g.2.2.1⟩
   ·rw[if_neg g]at h;cases h
  ·rw[if_neg e]at h;by_cases g:k=3
   ·rw[if_pos g]at h;by_cases c:v=0/\bf i a b=true/\f=0
    ·rw[if_pos c]at h;have d:=iJ c.2.1;by_cases j:255<s.size
     ·rw[if_pos j]at h;cases h
     ·exact .inr ⟨e,d.1,d.2.1,d.2.2,.inr (.inl ⟨g,c.1,by omega,c.2.2⟩)⟩
    ·rw[if_neg c]at h;cases h
   ·rw[if_neg g]at h;by_cases n:k=4
    ·rw[if_pos n]at h;by_cases c:v=0/\bf i a b=true/\f=0
     ·rw[if_pos c]at h;have d:=iJ c.2.1;by_cases j:4000<s.size
      ·rw[if_pos j]at h;cases h
      ·exact .inr ⟨e,d.1,d.2.1,d.2.2,.inr (.inr (.inl ⟨n,c.1,by omega,c.2.2⟩))⟩
     ·rw[if_neg c]at h;cases h
    ·rw[if_neg n]at h;by_cases o:k=5
     ·rw[if_pos o]at h;by_cases c:v=0/\bf i a b=true/\1<=f/\f<=32
      ·rw[if_pos c]at h;have d:=iJ c.2.1;by_cases j:255<s.size
       ·rw[if_pos j]at h;cases h
       ·exact .inr ⟨e,d.1,d.2.1,d.2.2,.inr (.inr (.inr ⟨o,c.1,by omega,c.2.2.1,c.2.2.2⟩))⟩
      ·rw[if_neg c]at h;cases h
     ·rw[if_neg o]at h;cases h
theorem AE {l:List Tm} (h:∀ i (a:i<l.length),(l[i]).sm):xT l:=by
 induction l with
 |nil=>rw[xT];trivial
 |cons x l b=>rw[xT];exact⟨h 0 (by simp),b fun i a=>h (i+1) (Nat.succ_lt_succ a)⟩
theorem TC.sm {w:World} {t:Tm} {cs:List Value} (h:TC w t cs):t.err0=0->t.sm:=by
 induction h with
 |mk k v s n a A B q f cs C G F x y o d D E z p=>
  intro m;obtain⟨g,j⟩:=bB m;have b:=AE fun i e=>p i e (dE j e);rw[Tm.sm];rcases al g with ⟨_,_,_,c,l⟩|⟨_,_,c,l,r⟩
  ·have:=LN.good o c;exact⟨by omega,by omega,by omega,b⟩
  ·exact⟨by omega,by omega,by omega,b⟩
theorem aQ {t:Tm} (h:t.check=0):t.count<=10000/\t.err0=0:=by
 unfold Tm.check at h;by_cases a:10000<t.count
 ·rw[if_pos a]at h;omega
 ·rw[if_neg a]at h;exact⟨by omega,h⟩
def TL (w:World) (v:Value) (ts:List Tm):Prop:=∃ (Ar:Option Addr) (cap:Nat) (cs:Nat->List Value),v=.slice Ar ts.length cap/\ts.length<=cap/\cap<=maxLen/\
 (0<ts.length->∃ b o,Ar=some ⟨b,o,none⟩/\b<w.heap.size/\∀ i,i<ts.length->∀ j,j<7->w.cell? ⟨b,o+i*7+j,none⟩=(cs i)[j]?)/\∀ i (h:i<ts.length),TC w ts[i] (cs i)
theorem TL.to {w w':World} {v:Value} {ts:List Tm} (h:TL w v ts) (d:zZ w w'):TL w' v ts:=by
 obtain⟨g,c,k,e,m,n,q,r⟩:=h;refine⟨g,c,k,e,m,n,fun l=>?_,fun i f=>(r i f).to d⟩;obtain⟨b,o,e,a,t⟩:=q l;exact⟨b,o,e,zD a d.size,fun i f j x=>(d.cell (p:=⟨b,o+i*7+j,none⟩) a).trans (t i f j x)⟩
end Go.Proofs.YtlhojoefhannnaaGreat
namespace Go.Proofs.YtlhojoefhannnaaGreat.NumB
def gY (l:List UInt8):Nat:=l.foldl (fun a c=>a*10+(c.toNat-48)) 0
def ro (c:UInt8):Bool:=decide (48<=c.toNat/\c.toNat<=57)
def ep (l:List UInt8):Bool:=l.all ro
def kO (l:List UInt8):Bool:=!l.isEmpty&&ep l
theorem tK (l:List UInt8) (a:Nat):l.foldl (fun a c=>a*10+(c.toNat-48)) a=a*10 ^ l.length+gY l:=by
 induction l generalizing a with
 |nil=>simp[gY]
 |cons c l b=>
  unfold gY;rw[List.foldl_cons,List.foldl_cons,b,b (0*10+(c.toNat-48)),zV,Nat.pow_succ,Nat.zero_mul,Nat.zero_add,Nat.add_mul,Nat.mul_assoc,Nat.mul_comm 10];omega
theorem qS (l m:List UInt8):gY (l++m)=gY l*10 ^ m.length+gY m:=by
 have:gY (l++m)=m.foldl (fun a c=>a*10+(c.toNat-48)) (gY l):=by unfold gY;rw[List.foldl_append]
 rw[this,tK]
def kI (x:Nat):List UInt8:=((aj 10 x).map fun d=>(48+d).toUInt8).reverse
def dec (x:Nat):List UInt8:=if x=0 then [48] else kI x
theorem Bm {x:Nat} (h:x≠0):kI x≠[]:=by
 unfold kI;intro e;have:=congrArg List.length e;simp at this;exact h ((dc (B:=10) (by decide)).1 this)
end Go.Proofs.YtlhojoefhannnaaGreat.NumB
namespace Go.Proofs.YtlhojoefhannnaaGreat
open Go.Proofs.Tryz Go.RowKit NumB
theorem qi {P:Program} {f:Array Oper} {d:List Oper} {o:Oper} {a:Act} {Q:Exit->Act->World->Prop} (w:World) (m:o.guard=none) (s x:Operand) (t:TypeId)
 (G:o.op=.call { callee:=.builtin .append,args:=#[s,x],argTypes:=#[t,t] })
 (k:IntKind) (T:TypeId) (bytes:Nat) (J:P.underlying t=some (.slice T)) (e:(P.info? T).map (fun i=>(i.zero,i.size,i.bytes))=some (some (.int k 0),1,bytes)) (l:bytes<=8)
 (B:Nat) (v:Value) (xs b:List Nat) (I:a.eval s=v) (L:a.eval x=.slice (some ⟨w.heap.size,0,none⟩) b.length b.length) (c:aW k T w B v xs) (F:xs.length+b.length<=1000000) (A:B<=w.heap.size) (C:Array Value) (D:C=(aX k b).toArray)
 (h:∀ j w',aW k T w' B j (xs++b)->Below B w w'->(w.alloc (.cells C T)).grownBy w' v.ownBlock->wpList P f Q d (a.put o.dst j) w'):wpList P f Q (o::d) a (w.alloc (.cells C T)):=by
 subst D;obtain⟨M,n,p,q,r⟩:=info_parts e;refine wpList_append_own_at _ m s x t G B T M (.int k 0) 1 bytes J n p q r rfl (by decide) v xs.length (aX k xs) I (c.alloc _) ⟨w.heap.size,0,none⟩ b.length b.length (aX k b) L (by rw[bG];omega) lQ gw (by unfold maxLen;omega) ?_ (by simp;omega) ?_
 ·have:(xs.length+b.length)*bytes<=1000000*8:=Nat.mul_le_mul F l;omega
 ·intro j w' z y _ _;refine h j w' ?_ (((Below.refl B w).alloc A _).grown y (by simp;omega) (fun g E=>c.blk g E)) y;unfold aW;rw[zE,<-fG];exact z
theorem Sl.blk {k:IntKind} {w w':World} {g o n c:Nat} {xs:List Nat} (h:Sl k w (.slice (some ⟨g,o,none⟩) n c) xs) (p:w'.heap[g]?=w.heap[g]?) (v:w.heap.size<=w'.heap.size):Sl k w' (.slice (some ⟨g,o,none⟩) n c) xs:=by
 obtain⟨A,x,e,f,j,l,m⟩:=h;simp only[Value.slice.injEq]at e;obtain⟨rfl,rfl,rfl⟩:=e;refine⟨_,_,rfl,f,j,l,fun t=>?_⟩;obtain⟨b,y,a,d,q⟩:=m t
 injection a with a
 injection a with e3 e4
 subst e3 e4;exact⟨g,o,rfl,zD d v,fun i r=>(World.cell?_of_block p).trans (q i r)⟩
theorem BW {k:IntKind} {T:TypeId} {w:World} {B:Nat} {v:Value} {xs:List Nat} (h:aW k T w B v xs):∀ g,v.ownBlock=some g->g<w.heap.size:=fun g a=>(World.ownsRow.lt h g a).2
theorem pC:(prog.info? 5).map (fun i=>(i.zero,i.size,i.bytes))=some (some (.int .u8 0),1,1):=by kernel_rfl
theorem zy {a l m:List Nat} (h:a++l=m):a.length<=m.length:=by rw[<-h];simp
theorem lD (l:List Nat) (i:Nat) (h:i<l.length):(l.map Int.ofNat).getD i 0=((l.getD i 0:Nat):Int):=by
 rw[List.getD_eq_getElem?_getD,List.getElem?_map,zO h,di h];rfl
theorem nW {x n:Nat} (h:n=(aj aw x).length):0<n↔0<x:=by
 subst h;constructor
 ·intro h;rcases Nat.eq_zero_or_pos x with a|a
  ·subst a;rw[bd]at h;exact absurd h (by simp)
  ·exact a
 ·intro h;exact List.length_pos_iff.2 fun a=>by have:=(dc aJ).1 a;omega
end Go.Proofs.YtlhojoefhannnaaGreat

/- fetterlockref1.MulNat. Conditions: at most 50000 digits. And 7 more texts. -/
import Derived.Sort.Walk0
import Derived.Test.YtlhojoefhannnaaGreatJx9
set_option linter.unusedVariables false
set_option linter.unusedSimpArgs false
set_option maxRecDepth 100000
set_option maxHeartbeats 51200000
namespace Go.Proofs.YtlhojoefhannnaaGreat
open Go.Proofs.Tryz Go.RowKit NumB
theorem uq {a d e:List Nat} {i k c x y o s:Nat} (b:i+k<d.length) (f:a.getD (i+k) 0=o) (j:e.getD k 0=y) (g:s=c+(x*y+o))
 (h:val aw (d.take (i+k))+aw ^ (i+k)*c=val aw (a.take (i+k))+aw ^ i*x*val aw (e.take k)):
 val aw ((d.set (i+k) (s % 65536)).take (i+(k+1)))+aw ^ (i+(k+1))*(s / 65536)=val aw (a.take (i+(k+1)))+aw ^ i*x*val aw (e.take (k+1)):=by
 rw[<-Nat.add_assoc,ap,ap,ap,cw _ _ _ _ zA,bi _ _ _ b,f,j,Nat.pow_succ];exact BS g (Nat.pow_add _ _ _) h aw
theorem ut {a c xs b:List Nat} {i m k x Y:Nat} (o:b.length=m) (e:val aw b=Y) (n:xs.getD i 0=x) (g:k=m\/k=m+1) (d:∀ q,i+m<=q->a.getD q 0=0) (f:∀ q,i+k<=q->c.getD q 0=a.getD q 0)
 (h:val aw (c.take (i+k))+aw ^ (i+k)*0=val aw (a.take (i+k))+aw ^ i*x*val aw (b.take k)) (l:val aw (a.take (i+m))=val aw (xs.take i)*Y):
 val aw (c.take (i+1+m))=val aw (xs.take (i+1))*Y:=by
 rw[Nat.mul_zero,Nat.add_zero,aM aw b (j:=k) (by omega),e]at h;rw[ap aw xs,n,Nat.add_mul,<-l];rcases g with rfl|rfl
 ·rw[show i+1+k=i+k+1 from by omega,ap,f _ zA,d _ zA,Nat.mul_zero,Nat.add_zero];exact h
 ·rw[show i+(m+1)=i+m+1 from by omega]at h;rw[show i+1+m=i+m+1 from by omega,h,ap,d _ zA,Nat.mul_zero,Nat.add_zero]
theorem rY (x y:Nat) (va vb:Value) (w:World) (ha:aV w va x) (hb:aV w vb y) (hx:(aj aw x).length<=50000) (hy:(aj aw y).length<=50000):
 Calls prog 155 #[va,vb] w (ja w (x*y)):=by
 have P:=zH hb;obtain⟨A,ca,rfl,c5,b6,Y⟩:=ha;obtain⟨A',cb,rfl,c6,b7,Z⟩:=hb;unfold maxLen at b6 b7;unfold aV at P;have HX:=zH (zW (zW (aR aJ x) (aR aJ y)) (zW (bg aJ x) (bg aJ y)));generalize aj aw x=xs at*;generalize aj aw y=ys at*;generalize hn:xs.length=n at*;generalize hm:ys.length=m at*;have T:=zH Y;have HM:=zH hm;clear Y Z hn hm;obtain⟨i0,M,a0,a1,a2⟩:=info_parts de;have HI:=zH M;have b0:=zH a0;have b1:=zH a1;have b2:=zH a2;clear M a0 a1 a2;go_enter func155,ntmps155
 go_wp2_with (at_make;refine wpList_make_full _ rfl _ _ 139 rfl w.heap.size 3 i0 (.int .i64 0) 1 underlying139 HI.o b0.o b1.o .i64 .i64 _ _ (n+m+1) rfl rfl (by omega) (by omega) (by rw[b2.o];omega) (by unfold maxLen;omega) zA ?_;intro w1 f V)
 have a6:=zH (cL.made f);have a3:=zH ((Below.refl w.heap.size w).grown V zA (by simp));clear f V
 go_loopg [19,6,7,8,9] n (fun gk si s6 s7 s8 s9 wr=>∃ (i:Nat) (a:List Nat),gk+i=n/\si=.int .i64 (i:Int)/\Yd (cL .i64 3 wr w.heap.size w.heap.size (n+m+1) (n+m+1) a)/\Yd (Ok aw a)/\Yd (∀ q,i+m<=q->a.getD q 0=0)/\Yd (val aw (a.take (i+m))=val aw (xs.take i)*y)/\Yd (zZ w wr))
 case atStart=>exact⟨0,List.replicate (n+m+1) 0,by omega,rfl,a6.o,bR (by decide),fun q _=>eP _ _,by unfold Yd;rw[List.take_replicate,dh];simp,a3.o⟩
 case round=>
  obtain⟨i,a,b5,rfl,HO,J,HZ,HE,HB⟩:=hrel;obtain⟨wo,rfl⟩:∃ wo:World,wo=wr:=⟨_,rfl⟩;by_cases hi:i<n
  ·obtain⟨b,o,p,rfl,hb,O,D⟩:=T.o.at_ (i:=i) hi;have d8:p<65536:=by rw[<-O];exact HX.o.2.1.getD (by decide) _
   have HP:=zH O;have a5:=zH D;clear O D;go_wp2_with fail
   go_loopg [7,8,9] (m+2) (fun b3 s7 s8 s9 wr=>∃ (k c:Nat) (F:List Nat),b3+k=m+2/\k<=m+1/\(k=m+1->c=0)/\s8=.int .i64 (k:Int)/\s7=.int .i64 (c:Int)/\c<65536/\Yd (cL .i64 3 wr w.heap.size w.heap.size (n+m+1) (n+m+1) F)/\Yd (Ok aw F)/\Yd (∀ q,i+k<=q->F.getD q 0=a.getD q 0)/\Yd (val aw (F.take (i+k))+aw ^ (i+k)*c=val aw (a.take (i+k))+aw ^ i*p*val aw (ys.take k))/\Yd (zZ w wr))
   case atStart=>exact⟨0,0,a,by omega,by omega,fun _=>rfl,rfl,rfl,by omega,HO.o,J.o,fun _ _=>rfl,by unfold Yd;simp,HB.o⟩
   case round=>
    obtain⟨k,c,F,c8,d3,N,rfl,rfl,hc,G,C,l,Q,g⟩:=hrel;by_cases t:m<=k/\c=0
    ·obtain⟨d7,rfl⟩:=t;have b8:¬(k<m):=by omega
     clear N
     go_wp2
     go_roundg (n-(i+1))
     case measure=>omega
     case rel=>
      refine⟨i+1,F,by omega,by go_num,G.o,C.o,?_,ut HM.o HX.o.1.2 HP.o (by omega) HZ.o l.o Q.o HE.o,g.o⟩;intro q' c0;rw[l.o q' (by omega)];exact HZ.o q' (by omega)
    ·have d4:k<=m:=by
      rcases Nat.lt_or_ge m k with h|h
      ·exact absurd ⟨by omega,N (by omega)⟩ t
      ·exact h
     have L:k<m\/(m<=k/\0<c):=by
      rcases Nat.lt_or_ge k m with h|h
      ·exact .inl h
      ·exact .inr ⟨h,Nat.pos_of_ne_zero fun h0=>t ⟨h,h0⟩⟩
     obtain⟨q,z⟩:∃ q,ys.getD k 0=q:=⟨_,rfl⟩;have e2:q<65536:=by rw[<-z];exact HX.o.2.2.getD (by decide) _
     have a7:Yd (k=m->q=0):=fun h=>by rw[<-z];exact eZ (by rw[HM.o];omega)
     have HQ:=zH z;clear z;obtain⟨r,X⟩:∃ r,a.getD (i+k) 0=r:=⟨_,rfl⟩;have HR:=zH X;have a8:Yd (k=m->r=0):=fun h=>by rw[<-X];exact HZ.o _ (by omega)
     have Z:r<65536:=by rw[<-X];exact J.o.getD (by decide) _
     have U:wr.cell? ⟨w.heap.size,i+k,none⟩=some (.int .i64 (r:Int)):=by rw[<-X,<-l.o _ zA];exact G.o.cell (by omega)
     have b4:wr.cell? ⟨b,o+i,none⟩=some (.int .i64 (p:Int)):=(g.o.cell (p:=⟨b,o+i,none⟩) hb).trans a5.o;clear X t N;obtain⟨d,v⟩:∃ d,d=p*q:=⟨_,rfl⟩;have S:=zH v;have e0:d<=4294836225:=by rw[v];exact Nat.mul_le_mul (show p<=65535 by omega) (show q<=65535 by omega)
     have e1:(p:Int)*(q:Int)=(d:Int):=by rw[v,Int.natCast_mul]
     clear v;have a9:Yd (Sl .i64 wr (.slice A' m cb) ys):=P.o.to g.o;have M:(0:Int)<=(i:Int)+(k:Int):=by omega
     have c9:(i:Int)+(k:Int)<((n+m+1:Nat):Int):=by omega
     have d0:(0:Int)<=(i:Int):=by omega
     have d1:(i:Int)<(n:Int):=by omega
     have ht:((i:Int)+(k:Int)).toNat=i+k:=by omega
     have e3:IntKind.i64.wrap ((i:Int)+(k:Int))=(i:Int)+(k:Int):=by rw[IntKind.wrap_i64];omega
     have c1:IntKind.i64.wrap (d:Int)=(d:Int):=by rw[IntKind.wrap_i64];omega
     have c2:IntKind.i64.wrap ((r:Int)+(d:Int))=(r:Int)+(d:Int):=by rw[IntKind.wrap_i64];omega
     have c3:IntKind.i64.wrap ((r:Int)+(d:Int)+(c:Int))=(r:Int)+(d:Int)+(c:Int):=by rw[IntKind.wrap_i64];omega
     rcases L with d6|⟨d5,c4⟩
     all_goals
      try (have b8:¬(k<m):=by omega)
      go_wp2
      go_quiet ((go_at_call 150;exact Af (f9 ys _ k q _ (by exact a9.o) (by omega) HQ.o)))
      clear c1 c2 c3 b4;generalize B:wr.drewN nq=wq;have I:Yd (cL .i64 3 wq w.heap.size w.heap.size (n+m+1) (n+m+1) F):=by rw[<-B];exact G.o
      have a4:Yd (zZ w wq):=by rw[<-B];exact aN g.o _
      have c7:wq.cell? ⟨w.heap.size,i+k,none⟩=some (.int .i64 (r:Int)):=by rw[<-B];exact U
      have hf:=I.o.frozen (i+k);clear B U
      go_wp2
      go_roundg (gk-1)
      case measure=>omega
      case rel=>
       have el:((r:Int)+(d:Int)+(c:Int)) % 65536=(((c+(d+r)) % 65536:Nat):Int):=by omega
       have eh:((r:Int)+(d:Int)+(c:Int)) / 65536=(((c+(d+r)) / 65536:Nat):Int):=by omega
       rw[el,eh];refine⟨k+1,(c+(d+r)) / 65536,F.set (i+k) ((c+(d+r)) % 65536),by omega,by omega,?_,by go_num,rfl,by omega,I.o.stored _ _,C.o.set (Nat.mod_lt _ (by decide)),?_,uq (by rw[I.o.1];omega) HR.o HQ.o (by rw[S.o]) Q.o,a4.o.setCell zA _⟩
       ·intro d2;have E:k=m:=by omega
        have h1:=a8.o E;have h2:=a7.o E;have h3:=S.o;rw[h2,Nat.mul_zero]at h3;omega
       ·intro q' c0;rw[NumB.getD_set_ne _ _ _ _ (by omega)];exact l.o q' (by omega)
  ·obtain rfl:i=n:=by omega
   clear b5 hi
   go_wp2_with (go_at_call 134;refine (eJ a _ _ HO.o.sl J.o).mono ?_;rintro e w' ⟨v',rfl,W,rfl⟩)
   go_ret;have he:=HE.o;have hv:val aw a=val aw (a.take (i+m)):=by
    rw[<-aM aw a (j:=i+m+1) (by rw[HO.o.1];exact zN _),ap,HZ.o _ zA,Nat.mul_zero,Nat.add_zero]
   rw[hv,he,aM aw xs (by rw[T.o.1];exact zN _),HX.o.1.1]at W;exact⟨_,rfl,W,HB.o⟩
def wb (na:Bool) (xa ya:Nat) (nb:Bool) (xb yb:Nat):Int:=if na=nb then (if na then -cF (xa*yb) (xb*ya) else cF (xa*yb) (xb*ya)) else if na then -1 else 1
theorem wa (x y:Nat):cF y x = -cF x y:=by unfold cF;split<;>split<;>(try split)<;>omega
theorem gX (x y:Nat):(aj aw (x*y)).length<=(aj aw x).length+(aj aw y).length:=by
 refine bC aJ ?_;rw[Nat.pow_add];exact Nat.mul_lt_mul'' (dC aJ) (dC aJ)
theorem wU (i l:Bool) (b d c f:Nat) (va vb:Value) (w:World) (ha:RV w va i b d) (hb:RV w vb l c f)
 (l1:(aj aw b).length<=10000) (l2:(aj aw d).length<=10000) (l3:(aj aw c).length<=10000) (l4:(aj aw f).length<=10000):
 Calls prog 129 #[va,vb] w fun e w'=>e=.returned (.int .i64 (wb i b d l c f))/\zZ w w':=by
 obtain⟨A1,A2,rfl,j,V⟩:=ha;obtain⟨A3,A4,rfl,W,X⟩:=hb;obtain⟨t,D,z,rfl,e1⟩:=j.form;obtain⟨v,E,A,rfl,e2⟩:=V.form;obtain⟨x,F,B,rfl,e3⟩:=W.form;obtain⟨y,G,C,rfl,e4⟩:=X.form;have T:Yd (((aj aw b).length<=50000/\(aj aw d).length<=50000)/\((aj aw c).length<=50000/\(aj aw f).length<=50000)):=⟨⟨by omega,by omega⟩,by omega,by omega⟩;have U:Yd ((aj aw (b*f)).length<=1000000/\(aj aw (c*d)).length<=1000000):=⟨zC (gX b f) (by omega),zC (gX c d) (by omega)⟩;have L:∀ g h:Obj,Yd (aV ((w.alloc g).alloc h).drew (.slice t D z) b/\aV ((w.alloc g).alloc h).drew (.slice v E A) d/\aV ((w.alloc g).alloc h).drew (.slice x F B) c/\aV ((w.alloc g).alloc h).drew (.slice y G C) f):=
  fun g h=>⟨j.to (cR w g h).drew,V.to (cR w g h).drew,W.to (cR w g h).drew,X.to (cR w g h).drew⟩
 have q:Yd (∀ g h:Obj,zZ w ((w.alloc g).alloc h).drew):=fun g h=>(cR w g h).drew;have J:Yd (wb i b d l c f=if i=l then (if i then -cF (b*f) (c*d) else cF (b*f) (c*d)) else if i then -1 else 1):=rfl;generalize wb i b d l c f=r at*;clear e1 e2 e3 e4 j V W X l1 l2 l3 l4;have I:=zH (Dm w 144 144 #[.bool i,.slice t D z,.slice v E A] #[.bool l,.slice x F B,.slice y G C]);have hk:∀ o n:World,zZ o n->(o.cell? ⟨w.heap.size,0,none⟩=some (.bool i)/\o.cell? ⟨w.heap.size,1,none⟩=some (.slice t D z)/\o.cell? ⟨w.heap.size,2,none⟩=some (.slice v E A)/\o.cell? ⟨w.heap.size+1,0,none⟩=some (.bool l)/\o.cell? ⟨w.heap.size+1,1,none⟩=some (.slice x F B)/\o.cell? ⟨w.heap.size+1,2,none⟩=some (.slice y G C)/\w.heap.size+1<o.heap.size)->(n.cell? ⟨w.heap.size,0,none⟩=some (.bool i)/\n.cell? ⟨w.heap.size,1,none⟩=some (.slice t D z)/\n.cell? ⟨w.heap.size,2,none⟩=some (.slice v E A)/\n.cell? ⟨w.heap.size+1,0,none⟩=some (.bool l)/\n.cell? ⟨w.heap.size+1,1,none⟩=some (.slice x F B)/\n.cell? ⟨w.heap.size+1,2,none⟩=some (.slice y G C)/\w.heap.size+1<n.heap.size):=fun o n j ⟨a0,a1,a2,a3,a4,a5,a6⟩=>⟨(j.cell (p:=⟨w.heap.size,0,none⟩) (by show w.heap.size<_;omega)).trans a0,(j.cell (p:=⟨w.heap.size,1,none⟩) (by show w.heap.size<_;omega)).trans a1,(j.cell (p:=⟨w.heap.size,2,none⟩) (by show w.heap.size<_;omega)).trans a2,(j.cell (p:=⟨w.heap.size+1,0,none⟩) (by show w.heap.size+1<_;omega)).trans a3,(j.cell (p:=⟨w.heap.size+1,1,none⟩) (by show w.heap.size+1<_;omega)).trans a4,(j.cell (p:=⟨w.heap.size+1,2,none⟩) (by show w.heap.size+1<_;omega)).trans a5,zD a6 j.size⟩;have HK:=zH hk;clear hk;go_enter func129,ntmps129;go_wp2_with fail
 go_region_held3 (fun w'=>w'.cell? ⟨w.heap.size,0,none⟩=some (.bool i)/\w'.cell? ⟨w.heap.size,1,none⟩=some (.slice t D z)/\w'.cell? ⟨w.heap.size,2,none⟩=some (.slice v E A)/\w'.cell? ⟨w.heap.size+1,0,none⟩=some (.bool l)/\w'.cell? ⟨w.heap.size+1,1,none⟩=some (.slice x F B)/\w'.cell? ⟨w.heap.size+1,2,none⟩=some (.slice y G C)/\w.heap.size+1<w'.heap.size)
  (first|go_keep|(refine HK.o _ _ (by assumption) ?_;go_keep))
  (first
   |(go_at_call 155;((with_reducible refine (rY b f (.slice t D z) (.slice y G C) _ (by exact (L _ _).out.1) (by exact (L _ _).out.2.2.2) T.o.1.1 T.o.2.2).mono ?_));rintro e w1 ⟨v1,rfl,Q,a⟩)
   |(go_at_call 155;((with_reducible refine (rY c d (.slice x F B) (.slice v E A) _ (by exact (L _ _).out.2.2.1.to a) (by exact (L _ _).out.2.1.to a) T.o.2.1 T.o.1.2).mono ?_));rintro e w2 ⟨v2,rfl,S,k⟩))
 have m:Yd (zZ w w2):=((q.o _ _).trans (a.mono (q.o _ _).size)).trans (k.mono (zC (q.o _ _).size a.size));have O:=(I.o.1.drew.to a).to k;have P:=(I.o.2.drew.to a).to k;have Y:=O.cell 0;have Z:=P.cell 0;simp only[List.getElem?_toArray,List.getElem?_cons_zero]at Y Z;have M:=zH (Q.to k);have N:=zH S;clear O P a k Q S HK L;cases i<;>cases l
 all_goals simp only[if_true,if_false,Bool.false_eq_true,Bool.true_eq_false]at J
 ·go_wp2_with fail;refine (dG (b*f) (c*d) _ _ _ (by exact M.o) (by exact N.o) U.o.1 U.o.2).mono ?_;rintro e w3 ⟨rfl,rfl⟩;go_wp2_with fail;go_ret;rw[J.o];exact⟨rfl,m.o⟩
 ·go_wp2_with fail;go_ret;rw[J.o];exact⟨rfl,m.o⟩
 ·go_wp2_with fail;go_ret;rw[J.o];exact⟨rfl,m.o⟩
 ·go_wp2_with fail;refine (dG (c*d) (b*f) _ _ _ (by exact N.o) (by exact M.o) U.o.2 U.o.1).mono ?_;rintro e w3 ⟨he,rfl⟩;rw[wa]at he;subst he;go_wp2_with fail;go_ret;rw[J.o];exact⟨rfl,m.o⟩
def yH (a b:LN):Int:=wb a.neg a.x a.y b.neg b.x b.y
def Ag (p q:Rat):Int:=if p<q then -1 else if q<p then 1 else 0
theorem wV (p q:Rat):Ag p q=0↔p=q:=by unfold Ag;grind
theorem sn (n:Bool) (x y:Nat):RatB.sg n x*(y:Int)=RatB.sg n (x*y):=by
 unfold RatB.sg;cases n<;>simp[Int.neg_mul]
theorem Dt {a b:Bool} {c e d f:Nat} (g:RatB.Canon a c e) (h:RatB.Canon b d f):RatB.q a c e<RatB.q b d f↔RatB.sg a (c*f)<RatB.sg b (d*e):=by
 rw[Rat.lt_iff,(RatB.q_num g).1,(RatB.q_num g).2,(RatB.q_num h).1,(RatB.q_num h).2,sn,sn]
theorem yG {a b:Bool} {c e d f:Nat} (g:RatB.Canon a c e) (i:RatB.Canon b d f):wb a c e b d f=Ag (RatB.q a c e) (RatB.q b d f):=by
 have k:=Dt g i;have l:=Dt i g;have m:a=true->0<c*f:=fun h=>Nat.mul_pos (Nat.pos_of_ne_zero fun j=>by have:=g.2.2 j;rw[h]at this;cases this) i.1;have n:b=true->0<d*e:=fun h=>Nat.mul_pos (Nat.pos_of_ne_zero fun j=>by have:=i.2.2 j;rw[h]at this;cases this) g.1;unfold Ag;simp only[k,l];clear k l;unfold wb cF;generalize c*f=X at*;generalize d*e=Y at*;unfold RatB.sg;cases a<;>cases b<;>simp only[if_true,if_false,Bool.false_eq_true,Bool.true_eq_false]
 ·split<;>split<;>(try split)<;>(try split)<;>omega
 ·have:=n rfl
  split<;>(try split)<;>omega
 ·have:=m rfl
  split<;>omega
 ·split<;>split<;>(try split)<;>(try split)<;>omega
theorem LN.q_eq {a b:LN} (p:a.ok) (q:b.ok) (k:a.err=0) (l:b.err=0) (h:a.q=b.q):a=b:=by
 obtain⟨v,w,_,_,x⟩:=LN.good p k;obtain⟨y,z,_,_,A⟩:=LN.good q l;obtain⟨g,i,j⟩:=RatB.q_inj x A h;obtain⟨r,c,e⟩:=a;obtain⟨t,d,f⟩:=b;have m:c=d:=by rw[<-show aj ai _=c from v,<-show aj ai _=d from y,i]
 have n:e=f:=by rw[<-show aj ai _=e from w,<-show aj ai _=f from z,j]
 have o:r=t:=g;rw[m,n,o]
theorem yI {a b:LN} (e:a.ok) (f:b.ok) (c:a.err=0) (d:b.err=0):yH a b=Ag a.q b.q:=yG (LN.good e c).2.2.2.2 (LN.good f d).2.2.2.2
theorem qO {d:Nat} (h:d<10):(48+d).toUInt8.toNat=48+d:=by
 show (48+d) % 256=48+d;omega
theorem tS {d:Nat} (h:d<10):ro (48+d).toUInt8=true:=decide_eq_true (by rw[qO h];omega)
theorem qT:∀ (l:List Nat),Ok 10 l->gY (l.map fun d=>(48+d).toUInt8).reverse=val 10 l
 |[],_=>rfl
 |d::l,h=>by
  rw[List.map_cons,List.reverse_cons,qS,qT l h.tail,val_cons];have:gY [(48+d).toUInt8]=d:=by
   show 0*10+((48+d).toUInt8.toNat-48)=d;rw[qO h.head];omega
  rw[this];simp;omega
theorem dD (x:Nat):gY (dec x)=x:=by
 unfold dec
 split
 ·rename_i h;rw[h];rfl
 ·unfold kI;rw[qT _ (bg (by decide) x),aR (by decide)]
theorem cO (x:Nat):ep (dec x)=true:=by
 unfold dec
 split
 ·rfl
 ·unfold kI ep;rw[List.all_eq_true];intro c a;obtain⟨d,b,rfl⟩:=List.mem_map.1 (List.mem_reverse.1 a);exact tS (bg (by decide) x d b)
theorem yN (x:Nat):dec x≠[]:=by
 unfold dec
 split
 ·simp
 ·rename_i h;exact Bm h
theorem km (x:Nat):kO (dec x)=true:=by
 unfold kO;rw[cO,Bool.and_true];cases h:dec x with
 |nil=>exact absurd h (yN x)
 |cons _ _=>rfl
theorem Bd:ai ^ 128<=10 ^ 1234:=by decide +kernel
theorem qM {x:Nat} (h:(aj ai x).length<=128):(dec x).length<=1234:=by
 have a:(aj 10 x).length<=1234:=bC (by decide) (zD (dC aI) (zC (Nat.pow_le_pow_right (by decide) h) Bd));unfold dec
 split
 ·simp
 ·unfold kI;rw[List.length_reverse,List.length_map];exact a
theorem lS {l:List UInt8} (h:ep l=true) {c:UInt8} (a:ro c=false):c∉l:=fun b=>by
 have:=List.all_eq_true.1 h c b;rw[a]at this;cases this
theorem ib:∀ {l:List UInt8} {c:UInt8},c∉l->Lib.indexByte l c = -1
 |[],_,_=>rfl
 |b::l,c,h=>by
  have h1:(b==c)=false:=zL fun e=>h (by simp[e]);have h2:=ib (l:=l) (c:=c) fun e=>h (by simp[e]);unfold Lib.indexByte;rw[h1,h2];rfl
theorem jm:∀ {l:List UInt8} {c:UInt8} {r:List UInt8},c∉l->Lib.indexByte (l++c::r) c=l.length
 |[],c,r,_=>by unfold Lib.indexByte;simp
 |b::l,c,r,h=>by
  have h1:(b==c)=false:=zL fun e=>h (by simp[e]);have h2:=jm (l:=l) (c:=c) (r:=r) fun e=>h (by simp[e]);show Lib.indexByte (b::(l++c::r)) c=_;unfold Lib.indexByte;rw[h1,h2];have h3:(((l.length:Nat):Int) == -1)=false:=zL (by omega);rw[h3];simp
theorem we {l:List UInt8} (h:ep l=true):yL l 114=(l,[],false):=by
 unfold yL;rw[ib (lS h (by decide)),if_neg (by omega)]
theorem Bk {l r:List UInt8} (h:ep l=true):yL (l++114::r) 114=(l,r,true):=by
 unfold yL;rw[jm (lS h (by decide)),if_pos (by omega),Int.toNat_natCast];simp
theorem oo {neg:Bool} {x y:Nat} (l:(aj ai x).length<=128) (m:(aj ai y).length<=128) (n:0<y):
 rP (dz neg x y)=0/\C0 (dz neg x y)=neg/\gY (rO (dz neg x y)).1=x/\B9 (dz neg x y)=y:=by
 have p:=qM l;have q:=qM m;obtain⟨c,f,d⟩:∃ c f,dec x=c::f:=by
  cases h:dec x with
  |nil=>exact absurd h (yN x)
  |cons c f=>exact⟨c,f,rfl⟩
 have j:ro c=true:=List.all_eq_true.1 (cO x) c (by rw[d];simp);have b:c≠45:=by rintro rfl;exact absurd j (by decide)
 have i:C0 (dz neg x y)=neg/\Lib.trimPrefix (dz neg x y) [45]=dec x++(if y=1 then [] else 114::dec y):=by
  unfold C0 dz;rw[d];cases neg with
  |true=>constructor<;>simp[Lib.hasPrefix,Lib.trimPrefix]
  |false=>
   have k:∀ r:List UInt8,[45].isPrefixOf (c::r)=false:=fun r=>by
    have g:((45:UInt8)==c)=false:=zL (Ne.symm b);show ((45:UInt8)==c&&([]:List UInt8).isPrefixOf r)=false;rw[g];rfl
   constructor<;>simp[Lib.hasPrefix,Lib.trimPrefix,k]
 have e:¬2500<(dz neg x y).length:=by
  unfold dz;rw[zE,zE];have g:(if neg=true then [45] else ([]:List UInt8)).length<=1:=by split<;>simp
  have o:(if y=1 then ([]:List UInt8) else 114::dec y).length<=1235:=by split<;>simp<;>omega
  omega
 have hcut:rO (dz neg x y)=if y=1 then (dec x,[],false) else (dec x,dec y,true):=by
  unfold rO;rw[i.2];by_cases h:y=1
  ·rw[if_pos h,if_pos h,List.append_nil];exact we (cO x)
  ·rw[if_neg h,if_neg h];exact Bk (cO x)
 have a:B9 (dz neg x y)=y:=by
  unfold B9;rw[hcut];by_cases h:y=1
  ·rw[if_pos h];simp[h]
  ·rw[if_neg h];simp[dD]
 refine⟨?_,i.1,?_,a⟩
 ·unfold rP;rw[if_neg e,a,if_neg,if_neg (by omega)];rw[hcut];by_cases h:y=1
  ·rw[if_pos h];simp[km]
  ·rw[if_neg h];simp[km]
 ·rw[hcut];by_cases h:y=1
  ·rw[if_pos h];exact dD x
  ·rw[if_neg h];exact dD x
def br (a b:Int):Int:=if a<b then -1 else if b<a then 1 else 0
theorem bh (a b:Int):br a b=0↔a=b:=by unfold br;split<;>(try split)<;>omega
def pF (a b:Int):Int:=if a≠0 then a else b
theorem cJ (a b:Int):pF a b=0↔a=0/\b=0:=by
 unfold pF
 split
 ·omega
 ·rename_i h;simp at h;simp[h]
def Cv (x y:UInt8):Int:=br x.toNat y.toNat
theorem vZ (x y:UInt8) (a b:List UInt8):Lib.compareBytes (x::a) (y::b)=pF (Cv x y) (Lib.compareBytes a b):=by
 rw[Lib.compareBytes];simp only[UInt8.lt_iff_toNat_lt];unfold Cv br pF;by_cases e:x.toNat<y.toNat
 ·have c:(x.toNat:Int)<y.toNat:=by omega
  rw[if_pos e,if_pos c,if_pos (by decide)]
 ·have c:¬(x.toNat:Int)<y.toNat:=by omega
  rw[if_neg e,if_neg c];by_cases f:y.toNat<x.toNat
  ·have d:(y.toNat:Int)<x.toNat:=by omega
   rw[if_pos f,if_pos d,if_pos (by decide)]
  ·have d:¬(y.toNat:Int)<x.toNat:=by omega
   rw[if_neg f,if_neg d,if_neg (by decide)]
theorem xK (x y:UInt8):Cv x y=0↔x=y:=by
 unfold Cv;rw[bh];exact⟨fun h=>UInt8.toNat_inj.1 (by omega),fun h=>by rw[h]⟩
theorem fP:∀ (a b:List UInt8),Lib.compareBytes a b=0↔a=b:=by
 intro a
 induction a with
 |nil=>intro b;cases b<;>simp[Lib.compareBytes]
 |cons x a c=>
  intro b;cases b with
  |nil=>simp[Lib.compareBytes]
  |cons y b=>rw[vZ,cJ,xK,c,List.cons.injEq]
mutual
def Tm.cmp:Tm->Tm->Int
 |.mk k v s n args,.mk k' v' s' n' args'=>pF (br k k') (if k=1 then br v v' else if k=2 then yH n n' else pF (br args.length args'.length) (pF (Lib.compareBytes s.data.toList s'.data.toList) (nD args args')))
def nD:List Tm->List Tm->Int
 |t::l,t'::l'=>pF (t.cmp t') (nD l l')
 |_,_=>0
end
mutual
def Tm.fine:Tm->Prop
 |.mk k v s n args=>n.ok/\au k v s n.neg n.num.length n.den.length n.err args.length=0/\ed args
def ed:List Tm->Prop
 |[]=>True
 |t::l=>t.fine/\ed l
end
theorem yV {l:List Tm} (h:∀ i (a:i<l.length),(l[i]).fine):ed l:=by
 induction l with
 |nil=>rw[ed];trivial
 |cons x l b=>rw[ed];exact⟨h 0 (by simp),b fun i a=>h (i+1) (Nat.succ_lt_succ a)⟩
theorem TC.fine {w:World} {t:Tm} {cs:List Value} (h:TC w t cs):t.err0=0->t.fine:=by
 induction h with
 |mk k v s n a A B m d cs r C z o p j b x y q l=>
  intro g;obtain⟨e,f⟩:=bB g;rw[Tm.fine];exact⟨j,e,yV fun i c=>l i c (dE f c)⟩
theorem kS {k v:Int} {s:ByteArray} {n:LN} {b:Nat} (h:au k v s n.neg n.num.length n.den.length n.err b=0) (a:k=2):n.err=0:=by
 rcases al h with ⟨_,_,_,h,_⟩|⟨h,_⟩
 ·exact h
 ·exact absurd a h
theorem iw {a b:LN} (e:a.ok) (f:b.ok) (c:a.err=0) (d:b.err=0):yH a b=0↔a=b:=by
 rw[yI e f c d,wV];exact⟨LN.q_eq e f c d,fun h=>by rw[h]⟩
theorem jW:∀ {l l' x y:List UInt8} {c:UInt8},ep l=true->ep l'=true->ro c=false->l++c::x=l'++c::y->l=l'/\x=y
 |[],[],x,y,c,_,_,_,h=>⟨rfl,by simpa using h⟩
 |[],d::l',x,y,c,_,h2,h3,h=>by
  simp at h;have:=List.all_eq_true.1 h2 d (by simp);rw[<-h.1,h3]at this;cases this
 |d::l,[],x,y,c,h1,_,h3,h=>by
  simp at h;have:=List.all_eq_true.1 h1 d (by simp);rw[h.1,h3]at this;cases this
 |d::l,d'::l',x,y,c,h1,h2,h3,h=>by
  simp only[List.cons_append,List.cons.injEq]at h;obtain⟨rfl,h⟩:=h;have e1:ep l=true:=by unfold ep at h1 ⊢;rw[List.all_cons]at h1;simp at h1;simpa using h1.2
  have e2:ep l'=true:=by unfold ep at h2 ⊢;rw[List.all_cons]at h2;simp at h2;simpa using h2.2
  have:=jW e1 e2 h3 h;exact⟨by rw[this.1],this.2⟩
theorem Bz {a b:LN} (t:a.ok) (v:b.ok) (n:a.err=0) (o:b.err=0) (h:dz a.neg a.x a.y=dz b.neg b.x b.y):a=b:=by
 obtain⟨i,j,p,q,r⟩:=LN.good t n;obtain⟨k,k2,w,z,A⟩:=LN.good v o;have c:=oo (neg:=a.neg) (x:=a.x) (y:=a.y) (by rw[i];exact p) (by rw[j];exact q) r.1;have d:=oo (neg:=b.neg) (x:=b.x) (y:=b.y) (by rw[k];exact w) (by rw[k2];exact z) A.1;rw[h]at c;have e:a.neg=b.neg:=c.2.1.symm.trans d.2.1;have l:a.x=b.x:=c.2.2.1.symm.trans d.2.2.1;have m:a.y=b.y:=c.2.2.2.symm.trans d.2.2.2;have f:a.num=b.num:=by rw[<-i,<-k,l]
 have g:a.den=b.den:=by rw[<-j,<-k2,m]
 cases a;cases b;simp only at e f g;rw[e,f,g]
theorem nG {l:Nat} (h:l<=32):(Utf8.encode (48+(l:Int))).data.toList=[UInt8.ofNat (48+l)]:=by
 have:∀ m:Fin 33,(Utf8.encode (48+(m.val:Int))).data.toList=[UInt8.ofNat (48+m.val)]:=by decide +kernel
 obtain⟨m,rfl⟩:∃ m:Fin 33,m.val=l:=⟨⟨l,by omega⟩,rfl⟩;exact this m
theorem vQ {l a:Nat} (h:l<=32) (b:a<=32) (e:UInt8.ofNat (48+l)=UInt8.ofNat (48+a)):l=a:=by
 have:=congrArg UInt8.toNat e;rw[UInt8.toNat_ofNat_of_lt' (by show 48+l<256;omega),UInt8.toNat_ofNat_of_lt' (by show 48+a<256;omega)]at this;omega
theorem lN (k v:Int) (s:ByteArray) (n:LN) (args:List Tm):(cE (.mk k v s n args)).data.toList=if k=1 then 118::dec v.toNat else if k=2 then 110::dz n.neg n.x n.y else if k=3 then 97::s.data.toList else if k=4 then 115::s.data.toList else 99::((Utf8.encode (48+(args.length:Int))).data.toList++s.data.toList):=by
 rw[rz]
 (repeat' split)<;>simp[ByteArray.data_append]
theorem wI {k v:Int} {s:ByteArray} {n:LN} {args:List Tm} {t w:Int} {f:ByteArray} {b:LN} {a:List Tm} (z:n.ok) (p:b.ok)
 (x:au k v s n.neg n.num.length n.den.length n.err args.length=0) (y:au t w f b.neg b.num.length b.den.length b.err a.length=0)
 (h:(cE (.mk k v s n args)).data.toList=(cE (.mk t w f b a)).data.toList):
 k=t/\(k=1->v=w)/\(k=2->n=b)/\(k≠1->k≠2->s=f)/\args.length=a.length:=by
 rw[lN,lN]at h;have r:s.data.toList=f.data.toList->s=f:=fun e=>ByteArray.ext (Array.toList_inj.1 e);rcases al x with ⟨rfl,g,i,c,j⟩|⟨_,_,_,_,⟨rfl,g,i,c,j⟩|⟨rfl,g,i,c⟩|⟨rfl,g,i,c⟩|⟨rfl,g,i,c,j⟩⟩<;>
 rcases al y with ⟨rfl,l,m,d,o⟩|⟨_,_,_,_,⟨rfl,l,m,d,o⟩|⟨rfl,l,m,d⟩|⟨rfl,l,m,d⟩|⟨rfl,l,m,d,o⟩⟩<;>
 simp only[if_true,if_false,(by decide:¬(2:Int)=1),(by decide:¬(3:Int)=1),(by decide:¬(3:Int)=2),(by decide:¬(4:Int)=1),(by decide:¬(4:Int)=2),(by decide:¬(4:Int)=3),(by decide:¬(5:Int)=1),(by decide:¬(5:Int)=2),(by decide:¬(5:Int)=3),(by decide:¬(5:Int)=4)]at h<;>
 first
  |(exfalso;revert h;simp;done)
  |skip
 ·simp only[List.cons.injEq,true_and]at h;exact⟨rfl,fun q=>absurd q (by decide),fun _=>Bz z p c d h,fun _ q=>absurd rfl q,by omega⟩
 ·simp only[List.cons.injEq,true_and]at h;refine⟨rfl,fun _=>?_,fun q=>absurd q (by decide),fun q=>absurd rfl q,by omega⟩;have:=congrArg gY h;rw[dD,dD]at this;omega
 ·simp only[List.cons.injEq,true_and]at h;exact⟨rfl,fun q=>absurd q (by decide),fun q=>absurd q (by decide),fun _ _=>r h,by omega⟩
 ·simp only[List.cons.injEq,true_and]at h;exact⟨rfl,fun q=>absurd q (by decide),fun q=>absurd q (by decide),fun _ _=>r h,by omega⟩
 ·simp only[List.cons.injEq,true_and]at h;rw[nG j,nG o]at h;simp only[List.cons_append,List.nil_append,List.cons.injEq]at h;exact⟨rfl,fun q=>absurd q (by decide),fun q=>absurd q (by decide),fun _ _=>r h.2,vQ j o h.1⟩
mutual
theorem Tm.shape_inj:∀ (a b:Tm),a.fine->b.fine->∀ r r',a.shapeL++r=b.shapeL++r'->a.cmp b=0/\r=r'
 |.mk k v s n args,.mk k' v' s' n' args',ha,hb,r,r',h=>by
  rw[Tm.fine]at ha hb;rw[Tm.shapeL,Tm.shapeL,zJ,zJ,List.cons_append,List.cons_append]at h;obtain⟨h1,h2⟩:=jW (cO _) (cO _) (by decide) h;have h3:=congrArg gY h1;rw[dD,dD]at h3;rw[zJ,zJ]at h2;obtain⟨h4,h5⟩:=List.append_inj h2 (by rw[Array.length_toList,Array.length_toList];exact h3);obtain⟨rfl,e1,e2,e3,e4⟩:=wI ha.1 hb.1 ha.2.1 hb.2.1 h4;obtain⟨h6,h7⟩:=kB args args' e4 ha.2.2 hb.2.2 r r' h5;refine⟨?_,h7⟩;rw[Tm.cmp,cJ,bh];refine⟨rfl,?_⟩;by_cases k1:k=1
  ·rw[if_pos k1,bh];exact e1 k1
  ·rw[if_neg k1];by_cases k2:k=2
   ·rw[if_pos k2,e2 k2,iw hb.1 hb.1 (kS hb.2.1 k2) (kS hb.2.1 k2)]
   ·rw[if_neg k2,cJ,cJ,bh,fP,e3 k1 k2];exact⟨by omega,rfl,h6⟩
theorem kB:∀ (a b:List Tm),a.length=b.length->ed a->ed b->∀ r r',bp a++r=bp b++r'->nD a b=0/\r=r'
 |[],[],_,_,_,r,r',h=>⟨rfl,by simpa[bp] using h⟩
 |t::l,t'::l',hl,ha,hb,r,r',h=>by
  rw[ed]at ha hb;rw[bp,bp,zJ,zJ]at h;obtain⟨h1,h2⟩:=t.shape_inj t' ha.1 hb.1 _ _ h;obtain⟨h3,h4⟩:=kB l l' (by simpa using hl) ha.2 hb.2 r r' h2;refine⟨?_,h4⟩;rw[nD,cJ];exact⟨h1,h3⟩
end
theorem dU (a:Int) (w:World):Calls prog 47 #[.int .i64 a] w fun e w'=>e=.returned (.bool false)/\w'=w:=by
 have h:(a != a)=false:=by simp
 go_enter func47,ntmps47;go_wp2_with fail;go_ret;exact⟨rfl,rfl⟩
theorem lp (a b:Int) (w:World):Calls prog 16 #[.int .i64 a,.int .i64 b] w fun e w'=>e=.returned (.int .i64 (br a b))/\w'=w:=by
 by_cases d:a<b
 ·have E:Yd (br a b = -1):=by unfold Yd br;rw[if_pos d]
  generalize br a b=r at*;go_enter func16,ntmps16;go_wp2_with fail;refine (dU _ _).mono ?_;rintro e c ⟨rfl,rfl⟩;go_wp2_with fail;refine (dU _ _).mono ?_;rintro e c ⟨rfl,rfl⟩;go_wp2_with fail;obtain rfl:=E.o;go_ret;exact⟨rfl,rfl⟩
 ·by_cases f:b<a
  ·have E:Yd (br a b=1):=by unfold Yd br;rw[if_neg d,if_pos f]
   generalize br a b=r at*;go_enter func16,ntmps16;go_wp2_with fail;refine (dU _ _).mono ?_;rintro e c ⟨rfl,rfl⟩;go_wp2_with fail;refine (dU _ _).mono ?_;rintro e c ⟨rfl,rfl⟩;go_wp2_with fail;obtain rfl:=E.o;go_ret;exact⟨rfl,rfl⟩
  ·have E:Yd (br a b=0):=by unfold Yd br;rw[if_neg d,if_neg f]
   generalize br a b=r at*;go_enter func16,ntmps16;go_wp2_with fail;refine (dU _ _).mono ?_;rintro e c ⟨rfl,rfl⟩;go_wp2_with fail;refine (dU _ _).mono ?_;rintro e c ⟨rfl,rfl⟩;go_wp2_with fail;obtain rfl:=E.o;go_ret;exact⟨rfl,rfl⟩
theorem jU (a:Int) (w:World):Calls prog 128 #[.int .i64 a] w fun e w'=>e=.returned (.int .i64 (br a 0))/\w'=w:=by
 by_cases b:a<0
 ·have E:Yd (br a 0 = -1):=by unfold Yd br;rw[if_pos b]
  generalize br a 0=r at*;go_enter func128,ntmps128;go_wp2_with fail;obtain rfl:=E.o;go_ret;exact⟨rfl,rfl⟩
 ·by_cases c:0<a
  ·have E:Yd (br a 0=1):=by unfold Yd br;rw[if_neg b,if_pos c]
   generalize br a 0=r at*;go_enter func128,ntmps128;go_wp2_with fail;obtain rfl:=E.o;go_ret;exact⟨rfl,rfl⟩
  ·have E:Yd (br a 0=0):=by unfold Yd br;rw[if_neg b,if_neg c]
   generalize br a 0=r at*;go_enter func128,ntmps128;go_wp2_with fail;obtain rfl:=E.o;go_ret;exact⟨rfl,rfl⟩
theorem mE (a b:ByteArray) (w:World):Calls prog 130 #[.string a,.string b] w fun e w'=>e=.returned (.int .i64 (Lib.compareBytes a.data.toList b.data.toList))/\w'=w:=strings_Compare a b w
theorem qz (x v k l:Int) (s:ByteArray) (j:Bool) (a b d:Option Addr) (i f h g n m:Nat) (w:World):
 Calls prog 15 #[.agg #[.int .i64 x,.int .i64 k,.int .i64 l,.string s,.bool j,.slice a i f,.slice b h g,.slice d n m],.int .i64 v] w fun e w'=>e=.returned (.int .i64 (br x v))/\zZ w w':=by
 have c:Yd (∀ W,Calls prog 16 #[.int .i64 x,.int .i64 v] W fun e w'=>e=.returned (.int .i64 (br x v))/\w'=W):=fun W=>lp x v W;go_enter func15,ntmps15;go_wp2_with fail;refine (c.o _).mono ?_;rintro e o ⟨rfl,rfl⟩;go_wp2_with fail;go_ret;exact⟨rfl,ae w _⟩
def fnd (bs:List (Int×Tm)) (v:Int):Option Tm:=(bs.find? fun p=>p.1==v).map (·.2)
def eC (bs:List (Int×Tm)):Prop:=∀ i j (hi:i<bs.length) (hj:j<bs.length),i<j->(bs[i]).1<(bs[j]).1
theorem rg {a:List (Int×Tm)} {v:Int} (h:∀ q (b:q<a.length),(a[q]).1≠v):fnd a v=none:=by
 unfold fnd;rw[List.find?_eq_none.2 fun p c=>?_]
 ·rfl
 ·obtain⟨q,b,rfl⟩:=List.getElem_of_mem c;simpa using h q b
theorem ji {a:List (Int×Tm)} {v:Int} {q:Nat} (e:eC a) (b:q<a.length) (h:(a[q]).1=v):fnd a v=some (a[q]).2:=by
 unfold fnd;have c:a.find? (fun p=>p.1==v)=some a[q]:=by
  rw[List.find?_eq_some_iff_getElem];refine⟨by simpa using h,q,b,rfl,fun j d=>?_⟩;have:=e j q (by omega) b d;simp;omega
 rw[c];rfl
def xZ (bs:List (Int×Tm)) (v:Int) (i:Nat) (b:Bool):Prop:=(b=true/\∃ hi:i<bs.length,(bs[i]).1=v)\/(b=false/\∀ q (hq:q<bs.length),(bs[q]).1≠v)
theorem kP {a b:Int}:br a b<0↔a<b:=by unfold br;(repeat' split)<;>omega
theorem qC {w:World} {a:List (Int×Tm)} {bv:Value} (h:BL w bv a) (hn:(a.length:Int)*120<=140737488351232) (hs:eC a) (v:Int) (W:World) (hW:zZ w W):
 Calls prog 14 #[bv,.int .i64 v,.func (.func 15) #[] #[]] W fun e W'=>∃ (i:Nat) (b:Bool),e=.returned (.tuple #[.int .i64 (i:Int),.bool b])/\zZ W W'/\xZ a v i b:=by
 obtain⟨Ar,a5,cs,rfl,L,hm,z,ha⟩:=h;have HR:=zH z;have HA:=zH ha;have t:=zH hW;have B:=zH hs;have HC:Yd (∀ (x k T:Int) (s:ByteArray) (S:Bool) (E F G:Option Addr) (Q I P J V U:Nat) (W:World),Calls prog 15 #[.agg #[.int .i64 x,.int .i64 k,.int .i64 T,.string s,.bool S,.slice E Q I,.slice F P J,.slice G V U],.int .i64 v] W fun e w'=>e=.returned (.int .i64 (br x v))/\zZ W w'):=fun x k T s S E F G Q I P J V U W=>qz x v k T s S E F G Q I P J V U W;unfold maxLen at hm;obtain⟨n,M⟩:∃ n,a.length=n:=⟨_,rfl⟩;rw[M]at L hn ⊢;have Y:=zH M;clear M z ha hW hs;go_enter func14,ntmps14;go_wp2_with fail
 go_loopg [9,10] n (fun gk s9 a4 wr=>∃ i j:Nat,s9=.int .i64 (i:Int)/\a4=.int .i64 (j:Int)/\gk+i=j/\j<=n/\Yd (∀ q (g:q<a.length),q<i->(a[q]).1<v)/\Yd (∀ q (g:q<a.length),j<=q->v<=(a[q]).1)/\Yd (zZ W wr))
 case atStart=>exact⟨0,n,rfl,rfl,by omega,zN _,fun q _ h=>absurd h (by omega),fun q g h=>by have:=Y.o;omega,Below.refl _ _⟩
 case round=>
  obtain⟨i,j,rfl,rfl,hg,a3,Z,H2,A⟩:=hrel;by_cases a6:i<j
  ·have O:(i+j) / 2<j:=by omega
   have N:i<=(i+j) / 2:=by omega
   have y:(i+j) / 2<a.length:=by rw[Y.o];omega
   have a7:((i:Int)+(j:Int)) / 2<(n:Int):=by omega
   have a8:0<=((i:Int)+(j:Int)) / 2:=by omega
   obtain⟨b,o,k,T,s,S,E,Q,I,F,P,J,G,V,U,C,r,D,y0,y1,y2,y3,y4,y5,y6,y7⟩:=cD HR.o HA.o (t.o.trans (A.o.mono t.o.size)) y;subst C;have d:Yd ((a[(i+j) / 2]).1<v->∀ q (g:q<a.length),q<(i+j) / 2+1->(a[q]).1<v):=fun c q g M=>by
    by_cases e:q=(i+j) / 2
    ·subst e;exact c
    ·have:=B.o q ((i+j) / 2) g y (by omega);omega
   have f:Yd (¬(a[(i+j) / 2]).1<v->∀ q (g:q<a.length),(i+j) / 2<=q->v<=(a[q]).1):=fun c q g M=>by
    by_cases e:q=(i+j) / 2
    ·subst e;omega
    ·have:=B.o ((i+j) / 2) q y g (by omega);omega
   generalize (a[(i+j) / 2]).1=x at*;have X:=zH O;have HI:=zH N;clear r y D O N;go_wp2_with fail;refine (HC.o _ _ _ _ _ _ _ _ _ _ _ _ _ _ _).mono ?_;rintro e w1 ⟨rfl,m⟩;have l:Yd (zZ W w1):=A.o.trans (m.mono A.o.size);clear m y0 y1 y2 y3 y4 y5 y6 y7;by_cases c:x<v
   ·have hc:br x v<0:=kP.2 c;have a0:=zH (d.o c);clear d f c;generalize br x v=cc at*;go_wp2_with fail
    go_roundg (j-((i+j) / 2+1))
    case measure=>have:=X.o;omega
    case rel=>exact⟨(i+j) / 2+1,j,by congr 1,rfl,by have:=X.o;omega,a3,a0.o,H2.o,l.o⟩
   ·have hc:¬br x v<0:=fun h=>c (kP.1 h);have a1:=zH (f.o (by first|exact c|omega));clear d f c;generalize br x v=cc at*;go_wp2_with fail
    go_roundg ((i+j) / 2-i)
    case measure=>have:=X.o;have:=HI.o;omega
    case rel=>exact⟨i,(i+j) / 2,rfl,by congr 1,by have:=HI.o;omega,by have:=X.o;omega,Z.o,a1.o,l.o⟩
  ·obtain rfl:j=i:=by omega
   by_cases a2:j<n
   ·have p:j<a.length:=by rw[Y.o];exact a2
    obtain⟨b,o,k,T,s,S,E,Q,I,F,P,J,G,V,U,C,r,D,y0,y1,y2,y3,y4,y5,y6,y7⟩:=cD HR.o HA.o (t.o.trans (A.o.mono t.o.size)) p;subst C;have d:Yd ((a[j]).1=v->xZ a v j true):=fun c=>.inl ⟨rfl,p,c⟩;have f:Yd ((a[j]).1≠v->xZ a v j false):=fun c=>.inr ⟨rfl,fun q g e=>by
     rcases Nat.lt_trichotomy q j with h|h|h
     ·have:=Z.o q g h;omega
     ·subst h;exact c e
     ·have:=B.o j q p g h;have:=H2.o j p zA;omega⟩
    generalize (a[j]).1=x at*;clear r p D;go_wp2_with fail;refine (HC.o _ _ _ _ _ _ _ _ _ _ _ _ _ _ _).mono ?_;rintro e w1 ⟨rfl,m⟩;have l:Yd (zZ W w1):=A.o.trans (m.mono A.o.size);clear m y0 y1 y2 y3 y4 y5 y6 y7;by_cases c:x=v
    ·have hc:(br x v==0)=true:=by rw[(bh x v).2 c];rfl
     have HS:=zH (d.o c);clear d f c;generalize br x v=cc at*;go_wp2_with fail;refine bodyPost_ret (v:=.tuple #[.int .i64 (j:Int),.bool true]) (by rw[results_tmp2 rfl];rfl) rfl ?_;exact⟨j,true,rfl,l.o,HS.o⟩
    ·have hc:(br x v==0)=false:=zL fun e=>c ((bh x v).1 e);have HS:=zH (f.o (by first|exact c|omega));clear d f c;generalize br x v=cc at*;go_wp2_with fail;refine bodyPost_ret (v:=.tuple #[.int .i64 (j:Int),.bool false]) (by rw[results_tmp2 rfl];rfl) rfl ?_;exact⟨j,false,rfl,l.o,HS.o⟩
   ·have HS:Yd (xZ a v j false):=.inr ⟨rfl,fun q g e=>by have:=Y.o;have:=Z.o q g (by omega);omega⟩;go_wp2_with fail;refine bodyPost_ret (v:=.tuple #[.int .i64 (j:Int),.bool false]) (by rw[results_tmp2 rfl];rfl) rfl ?_;exact⟨j,false,rfl,A.o,HS.o⟩
theorem lh {w:World} {j:List (Int×Tm)} {I:Value} (h:BL w I j) (hn:(j.length:Int)*120<=140737488351232) (P:eC j) (A:Nat) (hc:w.cell? ⟨A,0,none⟩=some I) (l:A<w.heap.size) (v:Int) (W:World) (Z:zZ w W):
 Calls prog 13 #[.int .i64 v,.pointer (some ⟨A,0,none⟩)] W fun e c=>∃ X tx,e=.returned (.tuple #[.agg X.toArray,.bool (fnd j v).isSome])/\TC c tx X/\(∀ x,fnd j v=some x->tx=x)/\zZ W c:=by
 have HS:Yd (∀ c,zZ w c->Calls prog 14 #[I,.int .i64 v,.func (.func 15) #[] #[]] c fun e w2=>∃ (i:Nat) (b:Bool),e=.returned (.tuple #[.int .i64 (i:Int),.bool b])/\zZ c w2/\xZ j v i b):=fun c M=>qC h hn P v c M;obtain⟨Ar,J,cs,rfl,B,hm,m,ha⟩:=h;have HR:=zH m;have HA:=zH ha;have a:=zH Z;have G:=zH P;have q:Yd (∀ c,zZ w c->c.cell? ⟨A,0,none⟩=some (.slice Ar j.length J)):=fun c M=>(M.cell (p:=⟨A,0,none⟩) l).trans hc;unfold maxLen at hm;obtain⟨n,O⟩:∃ n,j.length=n:=⟨_,rfl⟩;rw[O]at B hn HS q;have HL:=zH O;clear O m ha Z P hc l;have d:Yd (zZ W (W.alloc (.cells #[.int .i64 0,.int .i64 0,.string ⟨#[]⟩,.bool false,.slice none 0 0,.slice none 0 0,.slice none 0 0] 27))):=ae W _;have y:Yd (ah (W.alloc (.cells #[.int .i64 0,.int .i64 0,.string ⟨#[]⟩,.bool false,.slice none 0 0,.slice none 0 0,.slice none 0 0] 27)) W.heap.size 27 (zX 0 0 ⟨#[]⟩ false none 0 0 none 0 0 none 0 0).toArray):=ah.new W _ _;have y0:=q.o _ (a.o.trans (d.o.mono a.o.size));go_enter func13,ntmps13;go_wp2_with fail;refine (HS.o _ (by exact a.o.trans (d.o.mono a.o.size))).mono ?_;rintro e w1 ⟨i,b,rfl,r,Q⟩;have f:Yd (zZ W w1):=d.o.trans (r.mono d.o.size);have z:=zH (y.o.to r);have g:=a.o.trans (f.o.mono a.o.size);clear d y r y0;have y0:=q.o _ g;obtain⟨r0,r1,r2,r3,r4,r5,r6⟩:=z.o.s7;obtain⟨z0,z1,z2,z3,z4,z5,z6⟩:=z.o.z7;rcases Q with ⟨rfl,N,E⟩|⟨rfl,E⟩
 ·have C:=ji G.o N E;have a0:i<n:=by rw[<-HL.o];exact N
  obtain⟨bb,o,k,v0,s,ng,S,n1,V,T,m1,Y,U,xl,xc,L,D,l,x0,x1,x2,x3,x4,x5,x6,x7⟩:=cD HR.o HA.o g N;subst L;have HT:=zH D;have t:=zH C;clear D C l E x0 g;go_wp2_with fail;refine bodyPost_ret (v:=.tuple #[.agg #[.int .i64 k,.int .i64 v0,.string s,.bool ng,.slice S n1 V,.slice T m1 Y,.slice U xl xc],.bool true]) (by rw[results_cell_tmp rfl];go_simp) rfl ?_;refine⟨[.int .i64 k,.int .i64 v0,.string s,.bool ng,.slice S n1 V,.slice T m1 Y,.slice U xl xc],(j[i]).2,(by rw[t.o];rfl),?_,fun x F=>?_,((((((f.o.setCell zA _).setCell zA _).setCell zA _).setCell zA _).setCell zA _).setCell zA _).setCell zA _⟩
  rotate_left
  ·rw[t.o]at F;exact zI F
  ·exact HT.o.to (a.o.trans ((((((((f.o.setCell zA _).setCell zA _).setCell zA _).setCell zA _).setCell zA _).setCell zA _).setCell zA _).mono a.o.size))
 ·have t:=zH (rg E);clear E g;go_wp2_with fail;refine bodyPost_ret (v:=.tuple #[.agg #[.int .i64 0,.int .i64 0,.string ⟨#[]⟩,.bool false,.slice none 0 0,.slice none 0 0,.slice none 0 0],.bool false]) (by rw[results_cell_tmp rfl];go_simp) rfl ?_;refine⟨[.int .i64 0,.int .i64 0,.string ⟨#[]⟩,.bool false,.slice none 0 0,.slice none 0 0,.slice none 0 0],.mk 0 0 ⟨#[]⟩ ⟨false,[],[]⟩ [],(by rw[t.o];rfl),?_,fun x F=>(by rw[t.o]at F;cases F),?_⟩
  ·exact .mk 0 0 ⟨#[]⟩ ⟨false,[],[]⟩ [] (.slice none 0 0) (.slice none 0 0) none 0 (fun _=>[]) ⟨by decide,by decide⟩ ⟨by decide,by decide⟩ (by decide) (dj _ _) (dj _ _) ⟨Ok.nil,Ok.nil⟩ zA (by decide) (fun h=>by simp at h) (fun i h=>by simp at h)
  ·exact ((((((f.o.setCell zA _).setCell zA _).setCell zA _).setCell zA _).setCell zA _).setCell zA _).setCell zA _
end Go.Proofs.YtlhojoefhannnaaGreat

/- fetterlockref1.Decimal. Conditions: at most 10000 digits. And 17 more texts. -/
import Derived.Shelf.Strings.SlTrimAscii
import Derived.Laws.Runes
import Derived.Laws.IdiomStrings
import Derived.Test.YtlhojoefhannnaaGreatJx8
set_option linter.unusedVariables false
set_option linter.unusedSimpArgs false
set_option maxRecDepth 100000
set_option maxHeartbeats 51200000
namespace Go.Proofs.YtlhojoefhannnaaGreat
open Go.Proofs.Tryz Go.RowKit NumB
theorem wW {xs a:List Nat} {j x d b q r:Nat} (c:0<j) (l:j<=a.length) (i:xs.getD (j-1) 0=x) (g:j<=xs.length) (h:val aw (xs.drop j)=d*val aw (a.drop j)+b)
 (k:b*65536+x=d*q+r):val aw (xs.drop (j-1))=d*val aw ((a.set (j-1) q).drop (j-1))+r:=by
 have e:xs.drop (j-1)=x::xs.drop j:=by
  rw[List.drop_eq_getElem_cons (by omega),<-di (by omega),i,Nat.sub_add_cancel c]
 have f:(a.set (j-1) q).drop (j-1)=q::a.drop j:=by
  rw[List.drop_eq_getElem_cons (by simp;omega),Nat.sub_add_cancel c];simp[List.drop_set];omega
 rw[e,f,val_cons,val_cons,h];have:aw=65536:=rfl;rw[this,Nat.mul_add,Nat.mul_add,Nat.mul_left_comm];omega
def DH:Nat:=10
theorem uD:1<DH:=by decide
def sS (x:Nat):List Nat:=(aj DH x).map (48 + ·)
theorem yO {a:List Nat} {c x:Nat} (b:c≠0) (h:a++sS c=sS x):(a++[48+c % 10])++sS (c / 10)=sS x:=by
 rw[<-h];have:sS c=(48+c % 10)::sS (c / 10):=by
  unfold sS;rw[dQ uD b];rfl
 rw[this,zJ];rfl
theorem uR {x n:Nat} (h:(aj aw x).length<=n):(sS x).length<=5*n:=by
 unfold sS;rw[List.length_map];refine bC uD (zD (dC aJ) ?_);rw[Nat.pow_mul];exact zC (Nat.pow_le_pow_right (by decide) h) (Nat.pow_le_pow_left (by decide) n)
theorem qN (x:Nat):((sS x).reverse).map (fun d=>d.toUInt8)=kI x:=by
 unfold sS kI DH;rw[<-List.map_reverse,<-List.map_reverse,List.map_map];rfl
theorem Ai {b a:List Nat} {j L c:Nat} (g:b.length=L) (k:a.length=L) (i:j<L) (f:b.getD j 0=c) (h:a.drop (L-j)=(b.take j).reverse):(a.set (L-1-j) c).drop (L-(j+1))=(b.take (j+1)).reverse:=by
 have e:L-(j+1)=L-1-j:=by omega
 rw[e,List.drop_eq_getElem_cons (by simp;omega),List.take_succ_eq_append_getElem (by omega),List.reverse_append,<-h];have d:L-1-j+1=L-j:=by omega
 rw[d];simp[List.drop_set];constructor
 ·rw[<-f,di (by omega)]
 ·omega
theorem pJ (x:Nat) (va:Value) (w:World) (ha:aV w va x) (hx:(aj aw x).length<=10000) (a5:0<x):
 Calls prog 93 #[va] w fun e w'=>e=.returned (.string ⟨(kI x).toArray⟩)/\zZ w w':=by
 have HA:=zH ha;have a8:=zH (uR hx);have c9:=zH hx;have d3:=zH a5;obtain⟨A,c,rfl,_⟩:=ha;obtain⟨n,hn⟩:∃ n,(aj aw x).length=n:=⟨_,rfl⟩;rw[hn]at HA ⊢;have f5:((n:Int)==0)=false:=zL (by have:=(nW hn.symm).2 a5;omega);clear a5 hn;go_enter func93,ntmps93
 go_wp2
 go_loopg [0,3,4,5,6,7] x (fun gk s0 s3 s4 s5 s6 s7 wr=>∃ m:List Nat,Yd (aV wr s0 gk/\aW .u8 5 wr w.heap.size s3 m/\m++sS gk=sS x/\gk<=x/\zZ w wr))
 case atStart=>exact⟨[],HA.o,aW.nil_ _,rfl,zN _,Below.refl _ _⟩
 case round=>
  obtain⟨m,B⟩:=hrel;obtain⟨A0,c0,e2,e8,d7,b7⟩:=id B.o.1;have d6:(aj aw gk).length=(aj aw gk).length:=rfl;have f4:(aj aw gk).length<=10000:=zC (bT aJ B.o.2.2.2.1) c9.o;have a3:=nW (x:=gk) rfl;have HX:=zH (zW (aR aJ gk) (bg aJ gk));generalize aj aw gk=xs at*;generalize b6:xs.length=S at*;have a9:=zH b6;have d1:=zH b7;subst e2;clear d6 b6 b7;unfold maxLen at d7;by_cases h0:gk=0
  ·subst h0;obtain rfl:S=0:=by omega
   have T:m=sS x:=by have:=B.o.2.2.1;unfold sS at this;rw[bd,List.map_nil,List.append_nil]at this;exact this
   have b5:0<m.length:=by
    rw[T];refine List.length_pos_iff.2 fun h=>?_;unfold sS at h;have h1:=List.map_eq_nil_iff.1 h;have:=(dc uD).1 h1;have:=d3.o;omega
   obtain⟨g3,c3,e3,b0⟩:∃ g3 c3,u3=.slice (some ⟨g3,0,none⟩) m.length c3/\Yd (cL .u8 5 wr w.heap.size g3 m.length c3 m):=by
    rcases B.o.2.1.form with ⟨_,h⟩|⟨g,c,h,ho⟩
    ·rw[h]at b5;exact absurd b5 (by simp)
    ·exact⟨g,c,h,ho⟩
   subst e3;have e5:m.length<=50000:=by rw[T];exact a8.o
   have c6:Yd (m.reverse.map (fun d=>d.toUInt8)=kI x):=by unfold Yd;rw[T];exact qN x
   have D:=zH B.o.2.2.2.2;generalize hm:m.length=L at*;have HM:=zH hm;obtain⟨i0,J,N,O,Q⟩:=info_parts pC;have HI:=zH J;have X:=zH N;have Y:=zH O;have Z:=zH Q;clear J N O Q T hm B a3
   go_wp2_with (at_make;refine wpList_make_full _ rfl _ _ 83 rfl wr.heap.size 5 i0 (.int .u8 0) 1 underlying83 HI.o X.o Y.o .i64 .i64 _ _ L rfl rfl rfl rfl (by rw[Z.o];omega) (by unfold maxLen;omega) zA ?_;intro w1 k I)
   have E:=zH (cL.made k);have C:=zH ((Below.refl wr.heap.size wr).grown I zA (by simp));clear k I;obtain⟨t,a4⟩:∃ t:World,t=wr:=⟨_,rfl⟩;subst a4;have f1:=b0.o.lt.2
   go_loopg [54,9,10] L (fun gj e4 s9 g0 wq=>∃ (j:Nat) (f:List Nat),gj+j=L/\e4=.int .i64 (j:Int)/\Yd (cL .u8 5 wq t.heap.size t.heap.size L L f)/\Yd (f.drop (L-j)=(m.take j).reverse)/\Yd (zZ t wq))
   case atStart=>exact⟨0,_,by omega,rfl,E.o,by unfold Yd;rw[List.drop_eq_nil_of_le (by simp)];rfl,C.o⟩
   case round=>
    obtain⟨j,f,f0,rfl,v,HE,l⟩:=hrel;clear E C;by_cases hj:j<L
    ·obtain⟨p,a2⟩:∃ p,m.getD j 0=p:=⟨_,rfl⟩;have d4:wr.cell? ⟨g3,j,none⟩=some (.int .u8 (p:Int)):=by rw[<-a2];exact (b0.o.to l.o).cell hj
     have HP:=zH a2;obtain⟨y,hy⟩:∃ y:Nat,wr.cell? ⟨t.heap.size,L-1-j,none⟩=some (.int .u8 (y:Int)):=⟨_,v.o.cell (by omega)⟩;have hf:=v.o.frozen (L-1-j);have f2:((L:Int)-1-(j:Int))=((L-1-j:Nat):Int):=by omega
     have f3:L-1-j<L:=by omega
     clear a2
     go_wp2
     go_roundg (gk-1)
     case measure=>omega
     case rel=>exact⟨j+1,f.set (L-1-j) p,by omega,by go_num,v.o.stored _ _,Ai HM.o v.o.1 hj HP.o HE.o,l.o.setCell zA _⟩
    ·obtain rfl:j=L:=by omega
     have V:f=m.reverse:=by
      have h:=HE.o;rw[Nat.sub_self,List.drop_zero,zG (by rw[HM.o];exact zN _)]at h;exact h
     have b4:=fun F=>run_convert_bytes_arg (P:=prog) wr 83 5 underlying83 underlying5 t.heap.size 0 j F (f.map Int.ofNat) (by rw[List.length_map,v.o.1]) (fun i hi=>by
      rw[Nat.zero_add,v.o.cell hi,lD _ _ (by rw[v.o.1];exact hi)]) 9 underlying9
     have W:strOfNums (f.map Int.ofNat)=⟨(kI x).toArray⟩:=by
      unfold strOfNums;rw[<-c6.o,V,List.map_map];rfl
     have e9:∀ F,(convert 83 9 (.slice (some ⟨t.heap.size,0,none⟩) j F)).run prog wr=.ok (.string ⟨(kI x).toArray⟩) wr:=fun F=>by rw[b4 F,W]
     clear b4 W V
     go_wp2
     go_ret;exact⟨rfl,D.o.trans (l.o.mono D.o.size)⟩
  ·have f6:0<S:=a3.2 (by omega);have a7:=zH h0;obtain⟨i0,J,N,O,Q⟩:=info_parts de;have HI:=zH J;have X:=zH N;have Y:=zH O;have Z:=zH Q;clear J N O Q h0 a3
   go_wp2_with (at_make;refine wpList_make_full _ rfl _ _ 139 rfl wr.heap.size 3 i0 (.int .i64 0) 1 underlying139 HI.o X.o Y.o .i64 .i64 _ _ S rfl rfl rfl rfl (by rw[Z.o];omega) (by unfold maxLen;omega) zA ?_;intro w1 k I)
   have E:=zH (cL.made k);have C:=zH ((Below.refl wr.heap.size wr).grown I zA (by simp));clear k I;obtain⟨t,a4⟩:∃ t:World,t=wr:=⟨_,rfl⟩;subst a4;obtain⟨G,d5⟩:∃ G:Nat,G=gk:=⟨_,rfl⟩;subst d5
   go_loopg [4,6,7] (S+1) (fun gj s4 s6 s7 wq=>∃ (j a:Nat) (f:List Nat),gj=j+1/\j<=S/\s6=.int .i64 ((j:Int)-1)/\s4=.int .i64 (a:Int)/\a<10/\Yd (cL .i64 3 wq t.heap.size t.heap.size S S f)/\Yd (zZ t wq)/\Yd (val aw (xs.drop j)=10*val aw (f.drop j)+a)/\Yd (Ok aw f))
   case atStart=>exact⟨S,0,_,rfl,zN _,rfl,rfl,by omega,E.o,C.o,by unfold Yd;rw[<-a9.o,List.drop_length,List.drop_eq_nil_of_le (by simp)];rfl,bR (by decide)⟩
   case round=>
    obtain⟨j,a,f,rfl,hj,rfl,rfl,f7,v,l,HV,b1⟩:=hrel;clear E C;by_cases h0:0<j
    ·obtain⟨b,o,y,rfl,hb,a6,d4⟩:=(d1.o.below l.o).at_ (i:=j-1) (by omega);have f8:y<65536:=by rw[<-a6];exact HX.o.2.getD (by decide) _
     have HY:=zH a6;clear a6;obtain⟨z,hz⟩:∃ z:Nat,wr.cell? ⟨t.heap.size,j-1,none⟩=some (.int .i64 (z:Int)):=⟨_,v.o.cell (by omega)⟩;have hf:=v.o.frozen (j-1);obtain⟨q,r,hq,e0,d8,e1,c7⟩:∃ q r:Nat,((a:Int)*65536+(y:Int)) / 10=(q:Int)/\((a:Int)*65536+(y:Int)) % 10=(r:Int)/\q<65536/\r<10/\Yd (a*65536+y=10*q+r):=
      ⟨(a*65536+y) / 10,(a*65536+y) % 10,by omega,by omega,by omega,by omega,by unfold Yd;omega⟩
     go_wp2
     go_roundg j
     case measure=>omega
     case rel=>exact⟨j-1,r,f.set (j-1) q,by omega,by omega,by congr 1;omega,congrArg (Value.int .i64) e0,e1,v.o.stored _ _,l.o.setCell zA _,wW h0 (by rw[v.o.1];exact hj) HY.o (by rw[a9.o];exact hj) HV.o c7.o,b1.o.set d8⟩
    ·obtain rfl:j=0:=by omega
     have hv:=HV.o;rw[List.drop_zero,List.drop_zero,HX.o.1]at hv;have b2:Yd (G / 10=val aw f/\G % 10=a):=⟨by omega,by omega⟩;have c5:=zH (B.o.2.1.to l.o);have c4:=zH (BW B.o.2.1);have D:=zH (B.o.2.2.2.2.trans (l.o.mono B.o.2.2.2.2.size));obtain⟨U,e6,e7,c2⟩:∃ U:Nat,(48:Int)+(a:Int)=(U:Int)/\U<58/\Yd (U=48+a):=⟨48+a,by omega,by omega,rfl⟩;have c8:Yd (m.length+[U].length<=1000000):=by have:=zy B.o.2.2.1;have:=a8.o;unfold Yd;simp;omega
     clear hv
     go_wp2_with (at_builtin;go_must (refine qi wr rfl _ _ 83 rfl .u8 5 1 underlying83 pC (by decide) w.heap.size _ m [U] (by rfl) (by rfl) c5.o c8.o D.o.size _ rfl ?_);intro v2 w2 M b3 a0)
     have b8:Sl .i64 w2 (.slice (some ⟨t.heap.size,0,none⟩) S S) f:=by
      have h1:=v.o.sl.to (ae wr (.cells #[.int .u8 (U:Int)] 5));refine Sl.blk h1 (a0.block _ ?_ ?_) a0.size
      ·have:=v.o.lt.2;simp;omega
      ·intro e;have:=c4.o _ e.symm;omega
     refine (eJ f _ _ b8 b1.o).mono ?_;rintro e w3 ⟨v3,rfl,a1,rfl⟩;rw[<-b2.o.1]at a1;have d0:=zH a1;have d2:=zH M;have c1:=zH b3;clear a1 M b3 a0 b8
     go_wp2
     go_roundg (G / 10)
     case measure=>have:=a7.o;omega
     case rel=>
      refine⟨m++[U],d0.o,d2.o,?_,zC (Nat.div_le_self _ _) B.o.2.2.2.1,D.o.trans c1.o⟩;rw[c2.o,<-b2.o.2];exact yO a7.o B.o.2.2.1
theorem cQ (x:Nat) (b:Value) (w:World) (d:aV w b x) (f:(aj aw x).length<=10000):
 Calls prog 93 #[b] w fun e w'=>e=.returned (.string ⟨(dec x).toArray⟩)/\zZ w w':=by
 rcases Nat.eq_zero_or_pos x with a|a
 ·subst a;obtain⟨A,c,rfl,_⟩:=d;rw[bd];clear f;have g:(((0:Nat):Int)==0)=true:=rfl;have E:Yd (dec 0=[48]):=rfl;go_enter func93,ntmps93
  go_wp2
  go_ret;rw[E.o];exact⟨rfl,Below.refl _ _⟩
 ·unfold dec;rw[if_neg (by omega)];exact pJ x b w d f a
def tD (xs ys:List Nat):Bool:=decide (xs=ys)
theorem yT {xs a:List Nat} (h:xs=a):tD xs a=true:=decide_eq_true h
theorem nH {xs a:List Nat} (h:xs≠a):tD xs a=false:=decide_eq_false h
theorem xI {xs a:List Nat} {j:Nat} (b:j<xs.length) (c:j<a.length) (h:xs.take j=a.take j) (d:xs.getD j 0=a.getD j 0):xs.take (j+1)=a.take (j+1):=by
 rw[List.take_succ_eq_append_getElem b,List.take_succ_eq_append_getElem c,h,<-di b,<-di c,d]
def ik (a b:LN):Bool:=(a.neg==b.neg)&&(tD a.num b.num&&tD a.den b.den)
def yL (l:List UInt8) (c:UInt8):List UInt8×List UInt8×Bool:=
 if 0<=Lib.indexByte l c then (l.take (Lib.indexByte l c).toNat,l.drop ((Lib.indexByte l c).toNat+1),true) else (l,[],false)
def C0 (l:List UInt8):Bool:=Lib.hasPrefix l [45]
def rO (l:List UInt8):List UInt8×List UInt8×Bool:=yL (Lib.trimPrefix l [45]) 114
def B9 (l:List UInt8):Nat:=if (rO l).2.2 then gY (rO l).2.1 else 1
def rP (l:List UInt8):Int:=
 if 2500<l.length then 3 else if kO (rO l).1=false\/((rO l).2.2=true/\kO (rO l).2.1=false) then 6 else if B9 l=0 then 10 else 0
def dz (neg:Bool) (x y:Nat):List UInt8:=(if neg then [45] else [])++dec x++(if y=1 then [] else 114::dec y)
def tA:ByteArray:=⟨#[45,48,54,114,52]⟩
def tB:ByteArray:=⟨#[55]⟩
def LN.q (a:LN):Rat:=RatB.q a.neg a.x a.y
def RV (w:World) (v:Value) (neg:Bool) (x y:Nat):Prop:=∃ A B,v=.agg #[.bool neg,A,B]/\aV w A x/\aV w B y
theorem RV.to {w w':World} {v:Value} {neg:Bool} {x y:Nat} (h:RV w v neg x y) (a:zZ w w'):RV w' v neg x y:=by
 obtain⟨A,B,e,b,c⟩:=h;exact⟨A,B,e,b.to a,c.to a⟩
theorem aV.form {w:World} {v:Value} {x:Nat} (h:aV w v x):∃ A n c,v=.slice A n c/\n=(aj aw x).length:=by
 obtain⟨A,c,e,_⟩:=h;exact⟨A,_,c,e,rfl⟩
theorem RV.form {w:World} {v:Value} {neg:Bool} {x y:Nat} (h:RV w v neg x y):∃ A n c B m d,v=.agg #[.bool neg,.slice A n c,.slice B m d]/\n=(aj aw x).length/\m=(aj aw y).length:=by
 obtain⟨A,B,rfl,e,f⟩:=h;obtain⟨g,n,c,rfl,a⟩:=e.form;obtain⟨i,m,d,rfl,b⟩:=f.form;exact⟨_,_,_,_,_,_,rfl,a,b⟩
theorem RV.parts {w:World} {s neg:Bool} {A B:Value} {x y:Nat} (h:RV w (.agg #[.bool s,A,B]) neg x y):s=neg/\aV w A x/\aV w B y:=by
 obtain⟨c,d,e,a,b⟩:=h;simp only[Value.agg.injEq,Array.mk.injEq,List.cons.injEq,Value.bool.injEq,and_true]at e;obtain⟨rfl,rfl,rfl⟩:=e;exact⟨rfl,a,b⟩
theorem aV.put3 {w:World} {v:Value} {x g:Nat} {t:TypeId} {neg:Bool} {A d:Option Addr} {n m e f:Nat} (h:aV w v x) (i:ah w g t #[.bool neg,.slice A n e,.slice d m f]) (a b c:Value):aV (put3 w g a b c) v x:=
 Sl.boxed h i lR (Nat.le_of_eq (oz w g a b c).symm) (rQ w g a b c)
theorem RV.put3 {w:World} {v:Value} {neg s:Bool} {x y g:Nat} {t:TypeId} {A e:Option Addr} {n m f i:Nat} (h:RV w v neg x y) (d:ah w g t #[.bool s,.slice A n f,.slice e m i]) (a b c:Value):RV (put3 w g a b c) v neg x y:=by
 obtain⟨l,o,rfl,j,k⟩:=h;exact⟨l,o,rfl,j.put3 d a b c,k.put3 d a b c⟩
def CJ (w:World) (neg:Bool) (x y:Nat) (e:Ending) (w':World):Prop:=∃ v,e=.returned v/\RV w' v neg x y/\zZ w w'
theorem Dm (w:World) (t u:TypeId) (a b:Array Value):ah ((w.alloc (.cells a t)).alloc (.cells b u)) w.heap.size t a/\ah ((w.alloc (.cells a t)).alloc (.cells b u)) (w.heap.size+1) u b:=by
 refine⟨(ah.new w t a).alloc _,?_⟩;have:=ah.new (w.alloc (.cells a t)) u b;simpa using this
theorem cR (w:World) (a b:Obj):zZ w ((w.alloc a).alloc b):=(ae w a).alloc (by simp) b
theorem pM (a:LN) (v:Value) (w:World) (h:GV w v a) (t:a.num.length<=100000) (z:a.den.length<=100000):Calls prog 96 #[v] w (CJ w a.neg a.x a.y):=by
 obtain⟨A,B,rfl,O,P,S,T⟩:=h;have M:Yd (∀ (c d:Obj),Calls prog 125 #[A] ((w.alloc c).alloc d).drew (ja ((w.alloc c).alloc d).drew a.x)):=fun c d=>fU a.num A _ (O.to (cR w c d).drew) S t;have N:Yd (∀ (c d:Obj) (W:World),Below ((w.alloc c).alloc d).drew.heap.size ((w.alloc c).alloc d).drew W->Calls prog 125 #[B] W (ja W a.y)):=fun c d W hW=>fU a.den B _ ((P.to (cR w c d).drew).to hW) T z;have i:Yd (∀ c d:Obj,zZ w ((w.alloc c).alloc d).drew):=fun c d=>(cR w c d).drew;obtain⟨A,F,rfl,_⟩:=O;obtain⟨E,G,rfl,_⟩:=P;generalize a.num.length=n at*;generalize a.den.length=m at*;generalize a.neg=f at*;generalize a.x=x at*;generalize a.y=y at*;clear S T t z;have L:=zH (Dm w 24 144 #[.bool f,.slice A n F,.slice E m G] #[.bool false,.slice none 0 0,.slice none 0 0]);have Q:∀ l k:World,zZ l k->(l.cell? ⟨w.heap.size,0,none⟩=some (.bool f)/\l.cell? ⟨w.heap.size,1,none⟩=some (.slice A n F)/\l.cell? ⟨w.heap.size,2,none⟩=some (.slice E m G)/\w.heap.size+1<l.heap.size)->(k.cell? ⟨w.heap.size,0,none⟩=some (.bool f)/\k.cell? ⟨w.heap.size,1,none⟩=some (.slice A n F)/\k.cell? ⟨w.heap.size,2,none⟩=some (.slice E m G)/\w.heap.size+1<k.heap.size):=
  fun l k I ⟨h3,h4,h5,h2⟩=>⟨(I.cell (p:=⟨w.heap.size,0,none⟩) (by show w.heap.size<_;omega)).trans h3,(I.cell (p:=⟨w.heap.size,1,none⟩) (by show w.heap.size<_;omega)).trans h4,(I.cell (p:=⟨w.heap.size,2,none⟩) (by show w.heap.size<_;omega)).trans h5,zD h2 I.size⟩
 have X:=zH Q;clear Q;go_enter func96,ntmps96;go_wp2_with fail
 go_region_held3 (fun J=>J.cell? ⟨w.heap.size,0,none⟩=some (.bool f)/\J.cell? ⟨w.heap.size,1,none⟩=some (.slice A n F)/\J.cell? ⟨w.heap.size,2,none⟩=some (.slice E m G)/\w.heap.size+1<J.heap.size)
  (first|go_keep|(refine X.o _ _ (by assumption) ?_;go_keep))
  (first
   |(go_at_call 125;((with_reducible refine (M.o _ _).mono ?_));rintro e w1 ⟨v1,rfl,C,g⟩)
   |(go_at_call 125;((with_reducible refine (N.o _ _ _ (by exact g)).mono ?_));rintro e w2 ⟨v2,rfl,D,j⟩;obtain⟨U,_,Y,rfl,rfl⟩:=C.form;obtain⟨V,_,Z,rfl,rfl⟩:=D.form;have b:=(L.o.2.drew.to g).to j;have o:=b.cell 0;have q:=b.cell 1;have r:=b.cell 2;have a0:=b.frozen 0;have a1:=b.frozen 1;have a2:=b.frozen 2;simp only[L3]at o q r))
 all_goals
  go_wp2_with fail;refine bodyPost_ret (v:=.agg #[.bool f,.slice U (aj aw x).length Y,.slice V (aj aw y).length Z]) (by simp[results,results96,go_sem,o,q,r]) rfl ⟨_,rfl,?_,?_⟩
  ·exact RV.put3 (w:=w2) ⟨_,_,rfl,C.to j,D⟩ b _ _ _
  ·exact uj (((i.o _ _).trans (g.mono (i.o _ _).size)).trans (j.mono (zC (i.o _ _).size g.size))) (by omega) _ _ _
theorem LN.len16 {a:LN} (b:a.ok) (h:a.err=0):(aj aw a.x).length<=256/\(aj aw a.y).length<=256:=by
 obtain⟨_,_,c,d,_⟩:=LN.good b h;exact⟨dY b.1 c,dY b.2 d⟩
theorem gI (neg:Bool) (x y:Nat) (v:Value) (w:World) (h:RV w v neg x y) (d:(aj aw y).length<=1000000):
 Calls prog 135 #[v] w fun e w'=>e=.returned (.bool (cF y 1==0))/\zZ w w':=by
 obtain⟨k,l,rfl,c,b⟩:=h;obtain⟨m,r,p,rfl,i⟩:=c.form;obtain⟨n,t,q,rfl,j⟩:=b.form;have g:=zH b;have f:=zH d;have a:∀ o:Obj,aV ((w.alloc o).alloc (.cells #[.int .i64 1] 3)) (.slice (some ⟨w.heap.size+1,0,none⟩) 1 1) 1:=fun o=>by
  have h:=oh (w.alloc o);rw[show (w.alloc o).heap.size=w.heap.size+1 from by simp]at h;exact h
 clear c b i j d;go_enter func135,ntmps135;go_wp2_with fail;refine (dG y 1 _ _ _ (by exact g.o.to (cR w _ _)) (a _) f.o (by rw[dp];decide)).mono ?_;rintro e z ⟨rfl,rfl⟩;go_wp2_with fail;go_ret;exact⟨rfl,cR w _ _⟩
theorem iR {y:Nat} (h:y=1):(cF y 1==0)=true:=by subst h;decide
theorem gS {y:Nat} (h:y≠1):(cF y 1==0)=false:=by
 rcases Nat.lt_trichotomy y 1 with a|a|a
 ·rw[iv a];rfl
 ·exact absurd a h
 ·rw[kN a];rfl
theorem cf {x:Nat} (h:(aj aw x).length<=256):(dec x).length<=1300:=by
 have a:=uR h;unfold dec
 split
 ·simp
 ·rw[<-qN,List.length_map,List.length_reverse];omega
theorem xj (neg:Bool) (x y:Nat) (v:Value) (w:World) (h:RV w v neg x y) (O:(aj aw x).length<=256) (P:(aj aw y).length<=256):
 Calls prog 95 #[v] w fun e w'=>e=.returned (.string ⟨(dz neg x y).toArray⟩)/\zZ w w':=by
 obtain⟨X,Y,rfl,D,F⟩:=h;obtain⟨M,Q,k,rfl,T⟩:=D.form;obtain⟨N,S,l,rfl,U⟩:=F.form;have g:Yd (∀ o:Obj,aV (w.alloc o) (.slice M Q k) x/\aV (w.alloc o) (.slice N S l) y):=fun o=>⟨D.to (ae _ _),F.to (ae _ _)⟩;have c:=zH (zW O P);have t:=zH (ah.new w 144 #[.bool neg,.slice M Q k,.slice N S l]);clear D F T U O P;cases neg with
 |false=>
  by_cases i:y=1
  ·have A:=zH (iR i);have E:Yd (dz false x y=dec x):=by unfold Yd dz;rw[if_pos i];simp
   clear i;go_enter func95,ntmps95;go_wp2_with fail;refine (cQ x _ _ (by exact (g.o _).1) (zC c.o.1 (by omega))).mono ?_;rintro e J ⟨rfl,d⟩;have a:=t.o.to d;have m:=a.cell 0;have k:=a.cell 1;have l:=a.cell 2;simp only[L3]at m k l;have n:=zH a;have b:=zH d;clear a d;have C:=cf c.o.1;generalize p:dec x=I at*;clear p;go_wp2_with fail;refine (gI false x y _ _ ⟨_,_,rfl,(by exact (g.o _).1.to b.o),(by exact (g.o _).2.to b.o)⟩ (zC c.o.2 (by omega))).mono ?_;rintro e L ⟨r,f⟩;rw[A.o]at r;subst r;clear m k l;have a:=n.o.to f;have m:=a.cell 0;have k:=a.cell 1;have l:=a.cell 2;simp only[L3]at m k l;have j:=zH (b.o.trans (f.mono b.o.size));clear a f;go_wp2_with fail;go_ret;rw[E.o];exact⟨rfl,(ae w _).trans (j.o.mono (ae w _).size)⟩
  ·have A:=zH (gS i);have E:Yd (dz false x y=dec x++114::dec y):=by unfold Yd dz;rw[if_neg i];simp
   clear i;go_enter func95,ntmps95;go_wp2_with fail;refine (cQ x _ _ (by exact (g.o _).1) (zC c.o.1 (by omega))).mono ?_;rintro e J ⟨rfl,d⟩;have a:=t.o.to d;have m:=a.cell 0;have k:=a.cell 1;have l:=a.cell 2;simp only[L3]at m k l;have n:=zH a;have b:=zH d;clear a d;have C:=cf c.o.1;generalize p:dec x=I at*;clear p;go_wp2_with fail;refine (gI false x y _ _ ⟨_,_,rfl,(by exact (g.o _).1.to b.o),(by exact (g.o _).2.to b.o)⟩ (zC c.o.2 (by omega))).mono ?_;rintro e L ⟨r,f⟩;rw[A.o]at r;subst r;clear m k l;have a:=n.o.to f;have m:=a.cell 0;have k:=a.cell 1;have l:=a.cell 2;simp only[L3]at m k l;have j:=zH (b.o.trans (f.mono b.o.size));clear a f;go_wp2_with fail;refine (cQ y _ _ (by exact (g.o _).2.to j.o) (zC c.o.2 (by omega))).mono ?_;rintro e W ⟨rfl,q⟩;have z:=zH (j.o.trans (q.mono j.o.size));clear q;have G:=cf c.o.2;generalize B:dec y=V at*;clear B;go_wp2_with fail;go_ret;rw[E.o];exact⟨rfl,(ae w _).trans (z.o.mono (ae w _).size)⟩
 |true=>
  by_cases i:y=1
  ·have A:=zH (iR i);have E:Yd (dz true x y=45::(dec x)):=by unfold Yd dz;rw[if_pos i];simp
   clear i;go_enter func95,ntmps95;go_wp2_with fail;refine (cQ x _ _ (by exact (g.o _).1) (zC c.o.1 (by omega))).mono ?_;rintro e J ⟨rfl,d⟩;have a:=t.o.to d;have m:=a.cell 0;have k:=a.cell 1;have l:=a.cell 2;simp only[L3]at m k l;have n:=zH a;have b:=zH d;clear a d;have C:=cf c.o.1;generalize p:dec x=I at*;clear p;go_wp2_with fail;refine (gI true x y _ _ ⟨_,_,rfl,(by exact (g.o _).1.to b.o),(by exact (g.o _).2.to b.o)⟩ (zC c.o.2 (by omega))).mono ?_;rintro e L ⟨r,f⟩;rw[A.o]at r;subst r;clear m k l;have a:=n.o.to f;have m:=a.cell 0;have k:=a.cell 1;have l:=a.cell 2;simp only[L3]at m k l;have j:=zH (b.o.trans (f.mono b.o.size));clear a f;go_wp2_with fail;go_ret;rw[E.o];exact⟨rfl,(ae w _).trans (j.o.mono (ae w _).size)⟩
  ·have A:=zH (gS i);have E:Yd (dz true x y=45::(dec x++114::dec y)):=by unfold Yd dz;rw[if_neg i];simp
   clear i;go_enter func95,ntmps95;go_wp2_with fail;refine (cQ x _ _ (by exact (g.o _).1) (zC c.o.1 (by omega))).mono ?_;rintro e J ⟨rfl,d⟩;have a:=t.o.to d;have m:=a.cell 0;have k:=a.cell 1;have l:=a.cell 2;simp only[L3]at m k l;have n:=zH a;have b:=zH d;clear a d;have C:=cf c.o.1;generalize p:dec x=I at*;clear p;go_wp2_with fail;refine (gI true x y _ _ ⟨_,_,rfl,(by exact (g.o _).1.to b.o),(by exact (g.o _).2.to b.o)⟩ (zC c.o.2 (by omega))).mono ?_;rintro e L ⟨r,f⟩;rw[A.o]at r;subst r;clear m k l;have a:=n.o.to f;have m:=a.cell 0;have k:=a.cell 1;have l:=a.cell 2;simp only[L3]at m k l;have j:=zH (b.o.trans (f.mono b.o.size));clear a f;go_wp2_with fail;refine (cQ y _ _ (by exact (g.o _).2.to j.o) (zC c.o.2 (by omega))).mono ?_;rintro e W ⟨rfl,q⟩;have z:=zH (j.o.trans (q.mono j.o.size));clear q;have G:=cf c.o.2;generalize B:dec y=V at*;clear B;go_wp2_with fail;go_ret;rw[E.o];exact⟨rfl,(ae w _).trans (z.o.mono (ae w _).size)⟩
theorem mP (x:Nat) (a:x<18446744073709551616):bits .and .u64 (x:Int) 65535=((x % 65536:Nat):Int):=by
 have h:=u64_and (x:Int) 65535 (by omega) (by omega) (by omega) (by omega);rw[h];have e:(x:Int).toNat &&& (65535:Int).toNat=x % 65536:=by
  rw[Int.toNat_natCast,show (65535:Int).toNat=2 ^ 16-1 from rfl,Nat.and_two_pow_sub_one_eq_mod]
 rw[e]
theorem uu (x:Nat) (w:World) (v:x<18446744073709551616):Calls prog 94 #[.int .u64 (x:Int)] w (ja w x):=by
 have p:Yd ((aj aw x).length<=4):=bC aJ (by unfold aw;omega);go_enter func94,ntmps94
 go_wp2
 go_loopg [0,3] x (fun gk y z wr=>∃ a:List Nat,y=.int .u64 (gk:Int)/\gk<18446744073709551616/\Yd (aW .i64 3 wr w.heap.size z a/\a++aj aw gk=aj aw x/\zZ w wr))
 case atStart=>exact⟨[],rfl,v,aW.nil_ _,rfl,Below.refl _ _⟩
 case round=>
  obtain⟨a,rfl,t,d⟩:=hrel;by_cases k:gk=0
  ·subst k
   go_wp2
   go_ret;obtain⟨q,m,r⟩:=d.o;rw[bd,List.append_nil]at m;subst m;exact⟨_,rfl,q.sl,r⟩
  ·have o:0<gk:=by omega
   have g:=mP gk t;obtain⟨e,b⟩:∃ e:Nat,gk % 65536=e:=⟨_,rfl⟩;rw[b]at g;have n:e<65536:=by omega
   have j:=zH b;have i:=zH k;have f:Yd (a.length+[e].length<=1000000):=by
    have h:=congrArg List.length d.o.2.1;have:=p.o;rw[zE]at h;unfold Yd;simp;omega
   clear b k
   go_wp2_with (at_builtin;go_must (refine dv wr rfl _ _ 139 rfl .i64 3 8 underlying139 de (by decide) w.heap.size _ a [e] (by rfl) (by rfl) d.o.1 f.o d.o.2.2.size _ rfl ?_);intro A B c l)
   go_roundg (gk / 65536)
   case measure=>omega
   case rel=>
    refine⟨a++[e],congrArg (Value.int .u64) (by omega),by omega,c,?_,d.o.2.2.trans l⟩;rw[<-d.o.2.1,dQ aJ i.o,zJ,<-j.o];rfl
def cE:Tm->ByteArray
 |.mk k v s n args=>if k=1 then (⟨#[118]⟩:ByteArray)++⟨(dec v.toNat).toArray⟩ else if k=2 then (⟨#[110]⟩:ByteArray)++⟨(dz n.neg n.x n.y).toArray⟩ else if k=3 then (⟨#[97]⟩:ByteArray)++s else if k=4 then (⟨#[115]⟩:ByteArray)++s else ((⟨#[99]⟩:ByteArray)++Utf8.encode (48+(args.length:Int)))++s
theorem BH (W:World) (s:ByteArray) (B:Bool) (v w Ar:Option Addr) (z n A o l i:Nat) (x:Nat) (D:x<=1073741824):
 Calls prog 75 #[.agg #[.int .i64 1,.int .i64 (x:Int),.string s,.bool B,.slice v z n,.slice w A o,.slice Ar l i]] W fun e a=>e=.returned (.string ((⟨#[118]⟩:ByteArray)++⟨(dec x).toArray⟩))/\zZ W a:=by
 have b:Yd (zZ W (W.alloc (.cells #[.int .i64 1,.int .i64 (x:Int),.string s,.bool B,.slice v z n,.slice w A o,.slice Ar l i] 27))):=ae W _;have t:IntKind.u64.wrap (x:Int)=(x:Int):=by rw[IntKind.wrap_u64];omega
 have f:Yd (∀ a,Calls prog 94 #[.int .u64 (x:Int)] a fun e k=>∃ u,e=.returned u/\Yd (aV k u x/\zZ a k)):=fun a=>(uu x a (by omega)).mono (by rintro e k ⟨u,rfl,n,o⟩;exact⟨u,rfl,n,o⟩);have d:Yd (∀ a u,aV a u x->Calls prog 93 #[u] a fun e k=>e=.returned (.string ⟨(dec x).toArray⟩)/\Yd (zZ a k)):=fun a u h=>cQ x u a h (by
  have C:(aj aw x).length<=2:=bC aJ (by unfold aw;omega);omega)
 have p:Yd ((⟨(dec x).toArray⟩:ByteArray).size<=1300):=by
  have C:(aj aw x).length<=2:=bC aJ (by unfold aw;omega);have:=cf (x:=x) (by omega);show _<=_;simpa[ByteArray.size] using this
 generalize (⟨(dec x).toArray⟩:ByteArray)=r at*;have y:∀ a,(Op.stringOp .add ⟨#[118]⟩ r).run prog a=.ok (.string ((⟨#[118]⟩:ByteArray)++r)) a:=fun a=>run_string_add_sum a _ _ (by have I:=p.o;have J:(⟨#[118]⟩:ByteArray).size=1:=rfl;omega);generalize ((⟨#[118]⟩:ByteArray)++r)=L at*;clear D;go_enter func75,ntmps75;go_wp2_with fail;refine (f.o _).mono ?_;rintro e E ⟨u,rfl,m⟩;have g:Yd (zZ W E):=b.o.trans (m.o.2.mono b.o.size);have c:=zH (d.o _ _ m.o.1);obtain⟨G,M,rfl,_⟩:=m.o.1;clear m f d t;go_wp2_with fail;refine c.o.mono ?_;rintro e F ⟨rfl,j⟩;have q:Yd (zZ W F):=g.o.trans (j.out.mono g.o.size);clear j c;go_wp2_with fail;go_ret;exact⟨rfl,q.o⟩
theorem BI (W:World) (s:ByteArray) (o:Bool) (q r Ar:Option Addr) (B D C E l i:Nat) (v:Int) (c:ByteArray) (w:c.size<=10000) (n x y:Nat) (k:∀ a,zZ W a->Calls prog 96 #[.agg #[.bool o,.slice q B D,.slice r C E]] a fun e w'=>∃ u,e=.returned u/\Yd (RV w' u o x y/\zZ a w')) (m:∀ a u,RV a u o x y->Calls prog 95 #[u] a fun e w'=>e=.returned (.string c)/\Yd (zZ a w')):
 Calls prog 75 #[.agg #[.int .i64 2,.int .i64 v,.string s,.bool o,.slice q B D,.slice r C E,.slice Ar l i]] W fun e a=>e=.returned (.string ((⟨#[110]⟩:ByteArray)++c))/\zZ W a:=by
 have b:Yd (zZ W (W.alloc (.cells #[.int .i64 2,.int .i64 v,.string s,.bool o,.slice q B D,.slice r C E,.slice Ar l i] 27))):=ae W _;have f:=zH k;have g:=zH m;have F:∀ a,(Op.stringOp .add ⟨#[110]⟩ c).run prog a=.ok (.string ((⟨#[110]⟩:ByteArray)++c)) a:=fun a=>run_string_add_sum a _ _ (by have S:(⟨#[110]⟩:ByteArray).size=1:=rfl;omega);generalize ((⟨#[110]⟩:ByteArray)++c)=T at*;clear k m w;go_enter func75,ntmps75;go_wp2_with fail;refine (f.o _ b.o).mono ?_;rintro e N ⟨u,rfl,p⟩;have h:Yd (zZ W N):=b.o.trans (p.o.2.mono b.o.size);have d:=zH (g.o _ _ p.o.1);obtain⟨P,L,I,Q,M,J,rfl,A⟩:=p.o.1.form;clear A;clear p f g;go_wp2_with fail;refine d.o.mono ?_;intro e O z;have j:=z.2;have G:=z.1;clear z;subst G;have t:Yd (zZ W O):=h.o.trans (j.out.mono h.o.size);clear j d;go_wp2_with fail;go_ret;exact⟨rfl,t.o⟩
theorem BK (W:World) (s:ByteArray) (j:Bool) (d f Ar:Option Addr) (h k i m l b:Nat) (v:Int) (n:s.size<=10000):
 Calls prog 75 #[.agg #[.int .i64 3,.int .i64 v,.string s,.bool j,.slice d h k,.slice f i m,.slice Ar l b]] W fun e a=>e=.returned (.string ((⟨#[97]⟩:ByteArray)++s))/\zZ W a:=by
 have c:Yd (zZ W (W.alloc (.cells #[.int .i64 3,.int .i64 v,.string s,.bool j,.slice d h k,.slice f i m,.slice Ar l b] 27))):=ae W _;have g:∀ a,(Op.stringOp .add ⟨#[97]⟩ s).run prog a=.ok (.string ((⟨#[97]⟩:ByteArray)++s)) a:=fun a=>run_string_add_sum a _ _ (by have o:(⟨#[97]⟩:ByteArray).size=1:=rfl;omega);generalize ((⟨#[97]⟩:ByteArray)++s)=p at*;clear n;go_enter func75,ntmps75;go_wp2_with fail;go_ret;exact⟨rfl,c.o⟩
theorem BM (W:World) (s:ByteArray) (j:Bool) (d f Ar:Option Addr) (h k i m l b:Nat) (v:Int) (n:s.size<=10000):
 Calls prog 75 #[.agg #[.int .i64 4,.int .i64 v,.string s,.bool j,.slice d h k,.slice f i m,.slice Ar l b]] W fun e a=>e=.returned (.string ((⟨#[115]⟩:ByteArray)++s))/\zZ W a:=by
 have c:Yd (zZ W (W.alloc (.cells #[.int .i64 4,.int .i64 v,.string s,.bool j,.slice d h k,.slice f i m,.slice Ar l b] 27))):=ae W _;have g:∀ a,(Op.stringOp .add ⟨#[115]⟩ s).run prog a=.ok (.string ((⟨#[115]⟩:ByteArray)++s)) a:=fun a=>run_string_add_sum a _ _ (by have o:(⟨#[115]⟩:ByteArray).size=1:=rfl;omega);generalize ((⟨#[115]⟩:ByteArray)++s)=p at*;clear n;go_enter func75,ntmps75;go_wp2_with fail;go_ret;exact⟨rfl,c.o⟩
theorem BN (W:World) (s:ByteArray) (o:Bool) (g h Ar:Option Addr) (k p n q l b:Nat) (v:Int) (x:s.size<=10000) (w:l<=32):
 Calls prog 75 #[.agg #[.int .i64 5,.int .i64 v,.string s,.bool o,.slice g k p,.slice h n q,.slice Ar l b]] W fun e a=>e=.returned (.string (((⟨#[99]⟩:ByteArray)++Utf8.encode (48+(l:Int)))++s))/\zZ W a:=by
 have c:Yd (zZ W (W.alloc (.cells #[.int .i64 5,.int .i64 v,.string s,.bool o,.slice g k p,.slice h n q,.slice Ar l b] 27))):=ae W _;have j:(Utf8.encode (48+(l:Int))).size=1:=by
  have:∀ m:Fin 33,(Utf8.encode (48+(m.val:Int))).size=1:=by decide +kernel
  exact this ⟨l,by omega⟩
 have y:IntKind.i64.wrap (48+(l:Int))=48+(l:Int):=by rw[IntKind.wrap_i64];omega
 have z:IntKind.i32.wrap (48+(l:Int))=48+(l:Int):=by rw[IntKind.wrap_i32];omega
 have i:∀ a,(Op.stringOp .add ⟨#[99]⟩ (Utf8.encode (48+(l:Int)))).run prog a=.ok (.string ((⟨#[99]⟩:ByteArray)++Utf8.encode (48+(l:Int)))) a:=fun a=>run_string_add_sum a _ _ (by have A:(⟨#[99]⟩:ByteArray).size=1:=rfl;omega);have r:((⟨#[99]⟩:ByteArray)++Utf8.encode (48+(l:Int))).size=2:=by rw[ByteArray.size_append,j];rfl
 generalize t:(⟨#[99]⟩:ByteArray)++Utf8.encode (48+(l:Int))=d at*;have f:∀ a,(Op.stringOp .add d s).run prog a=.ok (.string (d++s)) a:=fun a=>run_string_add_sum a _ _ (by omega);generalize d++s=B at*;clear x j r w;go_enter func75,ntmps75;go_wp2_with fail;go_ret;exact⟨rfl,c.o⟩
theorem jQ {w:World} {k v:Int} {s:ByteArray} {n:LN} {args:List Tm} {cs:List Value} (h:TC w (.mk k v s n args) cs) (I:au k v s n.neg n.num.length n.den.length n.err args.length=0) (W:World) (o:zZ w W):
 Calls prog 75 #[.agg cs.toArray] W fun e b=>e=.returned (.string (cE (.mk k v s n args)))/\zZ W b:=by
 cases h with
 |mk k v s n args A B f a cs N J Q C D z E O P L=>
  have r:∀ b,zZ W b->GV b (.agg #[.bool n.neg,A,B]) n:=fun b p=>⟨A,B,rfl,C.to (o.trans (p.mono o.size)),D.to (o.trans (p.mono o.size)),z⟩;obtain⟨d,i,rfl,_⟩:=C;obtain⟨g,j,rfl,_⟩:=D;unfold cE;rcases al I with ⟨rfl,l,m,c,t⟩|⟨_,_,_,_,⟨rfl,l,m,c,t⟩|⟨rfl,l,m,c⟩|⟨rfl,l,m,c⟩|⟨rfl,l,m,c,t⟩⟩
  ·have F:=LN.good z c;have q:=LN.len16 z c;have S:=cf q.1;have T:=cf q.2;refine BI W s n.neg d g f _ i _ j _ a v ⟨(dz n.neg n.x n.y).toArray⟩ ?_ 0 n.x n.y (fun b p=>?_) (fun b u y=>?_)
   ·have M:(dz n.neg n.x n.y).length<=2700:=by
     unfold dz
     (repeat' split)<;>simp<;>omega
    simp[ByteArray.size];omega
   ·refine (pM n _ b (r b p) (zC F.2.2.1 (by omega)) (zC F.2.2.2.1 (by omega))).mono ?_;rintro e U ⟨u,rfl,y,G⟩;exact⟨u,rfl,y,G⟩
   ·exact xj n.neg n.x n.y u b y q.1 q.2
  ·obtain⟨x,rfl⟩:∃ x:Nat,v=(x:Int):=⟨v.toNat,by omega⟩;exact BH W s n.neg d g f _ i _ j _ a x (by omega)
  ·exact BK W s n.neg d g f _ i _ j _ a v (by omega)
  ·exact BM W s n.neg d g f _ i _ j _ a v (by omega)
  ·exact BN W s n.neg d g f _ i _ j _ a v (by omega) t
def RB (w:World) (B:Nat) (v:Value) (l:List UInt8):Prop:=w.ownsRow B 5 1 v l.length (Lib.byteCells l)
theorem RB.nil (w:World) (B:Nat):RB w B (.slice none 0 0) []:=World.ownsRow_nil _ _ _ _
theorem RB.below {w w':World} {B:Nat} {v:Value} {l:List UInt8} (h:RB w B v l) (a:zZ w w'):RB w' B v l:=ay (ts:=[]) h (aD.of_below a) (by simp)
theorem RB.form {w:World} {B:Nat} {v:Value} {l:List UInt8} (h:RB w B v l):∃ A c,v=.slice A l.length c:=bQ h
theorem RB.mono {w:World} {B B':Nat} {v:Value} {l:List UInt8} (h:RB w B v l) (a:B'<=B):RB w B' v l:=Joins.ownsRow_le h a
def AB (B:Nat) (w w':World):Prop:=Below B w w'/\aD [some 5] w w'
theorem AB.refl (B:Nat) (w:World):AB B w w:=⟨Below.refl _ _,aD.refl _ _⟩
theorem AB.trans {B:Nat} {a b c:World} (h:AB B a b) (k:AB B b c):AB B a c:=⟨h.1.trans k.1,h.2.trans k.2⟩
theorem AB.of_below {B:Nat} {a b:World} (h:zZ a b) (c:B<=a.heap.size):AB B a b:=⟨h.mono c,aD.of_below h⟩
theorem AB.size {B:Nat} {a b:World} (h:AB B a b):a.heap.size<=b.heap.size:=h.1.size
theorem ah.ab {B:Nat} {w w':World} {g:Nat} {T:TypeId} {cs:Array Value} (b:ah w g T cs) (h:AB B w w') (a:T≠5):ah w' g T cs:=b.frT h.2 (by simpa using a)
theorem vJ {c:Array Oper} {b:List Oper} {o:Oper} {a:Act} {Q:Exit->Act->World->Prop} (w:World) (i:o.guard=none) (q x:Operand)
 (D:o.op=.call { callee:=.builtin .append,args:=#[q,x],argTypes:=#[83,9] })
 (B:Nat) (v:Value) (e:List UInt8) (s:ByteArray) (E:a.eval q=v) (G:a.eval x=.string s) (g:RB w B v e) (F:e.length+s.size<=100000000000) (r:B<=w.heap.size)
 (h:∀ d z c' w',RB w' B (.slice d z c') (e++s.data.toList)->AB B w w'->wpList prog c Q b (a.put o.dst (.slice d z c')) w'):wpList prog c Q (o::b) a w:=by
 obtain⟨I,j,m,n,p⟩:=info_parts gB;refine Lib.wpList_append_own_string w i q x 83 9 D B 5 I underlying83 underlying9 j m n p v e.length _ E g s G (by unfold maxLen;omega) (by omega) r ?_;intro J w' y t _;obtain⟨d,c',rfl⟩:=bQ y;refine h d _ c' w' ?_ ⟨(Below.refl B w).grown t r fun k l=>(World.ownsRow.lt g k l).1,(aD.refl _ w).grown t fun k l=>by obtain⟨A,f,C⟩:=Lib.ownsRow_kind g k l;exact⟨A,_,f,C,by simp⟩⟩;unfold RB;rw[zE,Lib.byteCells_append];exact y
theorem AP {d:Array Oper} {b:List Oper} {o:Oper} {a:Act} {Q:Exit->Act->World->Prop} (w:World) (c:UInt8) (z:Int) (j:o.guard=none) (r x:Operand)
 (G:o.op=.call { callee:=.builtin .append,args:=#[r,x],argTypes:=#[83,83] })
 (B:Nat) (v:Value) (g:List UInt8) (I:a.eval r=v) (L:a.eval x=.slice (some ⟨w.heap.size,0,none⟩) 1 1) (i:RB w B v g) (J:g.length+1<=100000000000) (E:B<=w.heap.size)
 (M:z=(c.toNat:Int))
 (h:∀ e C c' w',RB w' B (.slice e C c') (g++[c])->AB B w w'->wpList prog d Q b (a.put o.dst (.slice e C c')) w'):wpList prog d Q (o::b) a (w.alloc (.cells #[.int .u8 z] 5)):=by
 subst M;obtain⟨N,l,n,p,q⟩:=info_parts gB;refine wpList_append_own_at _ j r x 83 G B 5 N (.int .u8 0) 1 1 underlying83 l n p q rfl (by decide) v g.length _ I (World.ownsRow.alloc i _) ⟨w.heap.size,0,none⟩ 1 1 [.int .u8 c.toNat] L rfl (cell_one_new _ _ _) (by intro u A;simp at A;subst A;rfl) (by unfold maxLen;omega) (by omega) (by simp;omega) ?_;intro O w' y t _ _;obtain⟨e,c',rfl⟩:=bQ y;refine h e _ c' w' ?_ ⟨((Below.refl B w).alloc E _).grown t (by simp;omega) fun k m=>(World.ownsRow.lt i k m).1,(aD.of_below (ae w _)).grown t fun k m=>by obtain⟨D,f,F⟩:=Lib.ownsRow_kind (World.ownsRow.alloc i _) k m;exact⟨D,_,f,F,by simp⟩⟩;unfold RB;rw[zE,Lib.byteCells_append];exact y
theorem RB.text {w:World} {B:Nat} {v:Value} {l:List UInt8} (h:RB w B v l) (d:0<l.length):(convert 83 9 v).run prog w=.ok (.string ⟨l.toArray⟩) w:=by
 rcases h.2 with ⟨_,e⟩|⟨g,a,b,rfl,_⟩
 ·omega
 ·refine run_convert_bytes_back w 83 9 5 ⟨g,0,none⟩ a l underlying83 underlying5 underlying9 fun j c=>?_;refine World.ownsRow.cells h (g:=g) rfl j _ ?_;unfold Lib.byteCells;rw[List.getElem?_map,zO c];rfl
theorem C5 (v:Int) (w:World):Calls prog 97 #[.int .i64 v] w fun e w'=>e=.returned (.agg #[.int .i64 1,.int .i64 v,.string ⟨#[]⟩,.bool false,.slice none 0 0,.slice none 0 0,.slice none 0 0])/\zZ w w':=by
 go_enter func97,ntmps97;go_wp2_with fail;refine bodyPost_ret (v:=.agg #[.int .i64 1,.int .i64 v,.string ⟨#[]⟩,.bool false,.slice none 0 0,.slice none 0 0,.slice none 0 0]) (by rw[aH rfl];go_simp) rfl ?_;exact⟨rfl,ae w _⟩
def Tm.var (v:Int):Tm:=.mk 1 v ⟨#[]⟩ ⟨false,[],[]⟩ []
theorem dj (w:World) (k:IntKind):Sl k w (.slice none 0 0) []:=(aW.nil_ (B:=0) (T:=0) w).sl
theorem TC.var (v:Int) (a:aG v) (w:World):TC w (.var v) [.int .i64 1,.int .i64 v,.string ⟨#[]⟩,.bool false,.slice none 0 0,.slice none 0 0,.slice none 0 0]:=
 .mk 1 v ⟨#[]⟩ ⟨false,[],[]⟩ [] (.slice none 0 0) (.slice none 0 0) none 0 (fun _=>[]) (by unfold aG;omega) a (by show 0<=_;omega) (dj w _) (dj w _) ⟨Ok.nil,Ok.nil⟩ zA (by unfold maxLen;omega) (fun h=>absurd h (by simp)) (fun i h=>absurd h (by simp))
theorem rz (k v:Int) (s:ByteArray) (n:LN) (args:List Tm):cE (.mk k v s n args)=if k=1 then (⟨#[118]⟩:ByteArray)++⟨(dec v.toNat).toArray⟩ else if k=2 then (⟨#[110]⟩:ByteArray)++⟨(dz n.neg n.x n.y).toArray⟩ else if k=3 then (⟨#[97]⟩:ByteArray)++s else if k=4 then (⟨#[115]⟩:ByteArray)++s else ((⟨#[99]⟩:ByteArray)++Utf8.encode (48+(args.length:Int)))++s:=rfl
theorem xP (n:Nat):cE (.var (n:Int))=(⟨#[118]⟩:ByteArray)++⟨(dec n).toArray⟩:=by
 unfold Tm.var cE;dsimp only;rw[if_pos rfl,Int.toNat_natCast]
theorem sO {v:Int} (b:0<=v) (c:v<=1073741824) (a:Int):au 1 v ⟨#[]⟩ false 0 0 a 0=0:=by
 unfold au;rw[if_pos rfl,if_pos ⟨b,c,by decide +kernel,rfl,rfl⟩]
theorem pi (a:UInt8) (b:ByteArray):((⟨#[a]⟩:ByteArray)++b).extract 1 ((⟨#[a]⟩:ByteArray)++b).size=b:=by
 apply ByteArray.ext
 have c:(⟨#[a]⟩:ByteArray).size=1:=rfl;simp[ByteArray.data_extract,ByteArray.data_append]
 right
 omega
theorem sI (n:Nat) (k:n<=1073741824) (w:World):Calls prog 76 #[.int .i64 (n:Int)] w fun e w'=>e=.returned (.string ⟨(dec n).toArray⟩)/\zZ w w':=by
 have g:Yd (∀ W,zZ w W->Calls prog 75 #[.agg (zX 1 (n:Int) ⟨#[]⟩ false none 0 0 none 0 0 none 0 0).toArray] W fun e i=>e=.returned (.string ((⟨#[118]⟩:ByteArray)++⟨(dec n).toArray⟩))/\zZ W i):=fun W j=>by
  have:=jQ (TC.var (n:Int) (by unfold aG;omega) w) (sO (by omega) (by omega) _) W j;rw[<-xP];exact this
 have h:=zH (pi 118 ⟨(dec n).toArray⟩);generalize (⟨(dec n).toArray⟩:ByteArray)=f at*;have HS:Yd (((⟨#[118]⟩:ByteArray)++f).size=1+f.size):=by unfold Yd;simp[ByteArray.size_append];rfl
 generalize ((⟨#[118]⟩:ByteArray)++f)=m at*;have l:=HS.o;clear k;go_enter func76,ntmps76;go_wp2_with fail;refine (C5 _ _).mono ?_;rintro e o ⟨rfl,b⟩;have a:=zH b;clear b;go_wp2_with fail;refine (g.o _ a.o).mono ?_;rintro e p ⟨rfl,c⟩;have d:=zH (a.o.trans (c.mono a.o.size));clear c a g;go_wp2_with fail;go_ret;exact⟨congrArg (fun x=>Ending.returned (.string x)) (by rw[<-l];exact h.o),d.o⟩
mutual
def Tm.shapeL:Tm->List UInt8
 |.mk k v s n args=>dec (cE (.mk k v s n args)).size++(58::((cE (.mk k v s n args)).data.toList++bp args))
def bp:List Tm->List UInt8
 |[]=>[]
 |t::l=>t.shapeL++bp l
end
theorem pU (l:List Tm) (t:Tm):bp (l++[t])=bp l++t.shapeL:=by
 induction l with
 |nil=>simp[bp]
 |cons x l a=>simp[bp,a]
theorem pV (l:List Tm) {j:Nat} (a:j<l.length):bp (l.take (j+1))=bp (l.take j)++(l[j]).shapeL:=by rw[d9 l a,pU]
theorem fQ {n:Nat} (h:n<1000000000000):(dec n).length<=1300:=by
 have a:(aj aw n).length<=3:=bC aJ (by unfold aw;omega);exact cf (by omega)
theorem iC {k v:Int} {s:ByteArray} {n:LN} {args:List Tm} (i:n.ok) (j:au k v s n.neg n.num.length n.den.length n.err args.length=0):(cE (.mk k v s n args)).size<=5000:=by
 have g:∀ l:List UInt8,(⟨l.toArray⟩:ByteArray).size=l.length:=fun l=>by simp[ByteArray.size]
 have b:∀ c:UInt8,(⟨#[c]⟩:ByteArray).size=1:=fun c=>rfl;rw[rz];rcases al j with ⟨rfl,d,e,a,f⟩|⟨_,_,_,_,⟨rfl,d,e,a,f⟩|⟨rfl,d,e,a⟩|⟨rfl,d,e,a⟩|⟨rfl,d,e,a,f⟩⟩
 ·rw[if_neg (by decide),if_pos rfl,ByteArray.size_append,b,g];have h:=LN.len16 i a;have q:=cf h.1;have r:=cf h.2;have p:(dz n.neg n.x n.y).length<=2700:=by
   unfold dz
   (repeat' split)<;>simp<;>omega
  omega
 ·rw[if_pos rfl,ByteArray.size_append,b,g];have:=fQ (n:=v.toNat) (by omega);omega
 ·rw[if_neg (by decide),if_neg (by decide),if_pos rfl,ByteArray.size_append,b];omega
 ·rw[if_neg (by decide),if_neg (by decide),if_neg (by decide),if_pos rfl,ByteArray.size_append,b];omega
 ·rw[if_neg (by decide),if_neg (by decide),if_neg (by decide),if_neg (by decide),ByteArray.size_append,ByteArray.size_append,b];have o:(Utf8.encode (48+(args.length:Int))).size=1:=by
   have:∀ m:Fin 33,(Utf8.encode (48+(m.val:Int))).size=1:=by decide +kernel
   exact this ⟨args.length,by omega⟩
  omega
theorem kC {l:List Tm} (h:∀ i (a:i<l.length),(l[i]).shapeL.length<=10000*(l[i]).count):(bp l).length<=10000*am l:=by
 induction l with
 |nil=>simp[bp]
 |cons x l b=>
  have c:=h 0 (by simp);have d:=b fun i a=>h (i+1) (Nat.succ_lt_succ a);simp[bp,am]at*;omega
theorem TC.shape_len {w:World} {t:Tm} {cs:List Value} (h:TC w t cs):t.err0=0->t.shapeL.length<=10000*t.count:=by
 induction h with
 |mk k v s n a A B q e cs E J I z C o c F G D p=>
  intro m;obtain⟨f,g⟩:=bB m;have r:=iC o f;have x:=kC fun i d=>p i d (dE g d);have y:=fQ (n:=(cE (.mk k v s n a)).size) (by omega);have j:∀ b:ByteArray,b.data.toList.length=b.size:=fun b=>Array.length_toList;have l:(Tm.mk k v s n a).count=1+am a:=rfl;rw[Tm.shapeL,l];generalize cE (.mk k v s n a)=L at*;simp only[zE,zV,j];omega
theorem xu (B:Nat) {w:World} (e7:w.heap.size<=B) {t:Tm} {cs:List Value} (h:TC w t cs):t.err0=0->∀ (c:List UInt8) (ov:Value),c.length+10000*t.count<=1000000000->∀ (W:World),zZ w W->B<=W.heap.size->RB W B ov c->
 Calls prog 50 #[ov,.agg cs.toArray] W fun e f=>∃ y,e=.returned y/\RB f B y (c++t.shapeL)/\AB B W f:=by
 have h':=h
 induction h with
 |mk k v s n a A C Ar Z cs hk hv hs hA hB hn e9 hm hr ha ih=>
  intro he c ov c8 W hW c0 hF;obtain⟨a2,a3⟩:=bB he;have HR:=zH hr;have HA:=zH ha;have IH:Yd (∀ i (hi:i<a.length) (c:List UInt8) (ov:Value),c.length+10000*(a[i]).count<=1000000000->∀ (W:World),zZ w W->B<=W.heap.size->RB W B ov c->
   Calls prog 50 #[ov,.agg (cs i).toArray] W fun e f=>∃ y,e=.returned y/\RB f B y (c++(a[i]).shapeL)/\AB B W f):=fun i hi=>ih i hi (ha i hi) (dE a3 hi)
  have d7:Yd (∀ j,(hj:j<=a.length)->(bp (a.take j)).length<=10000*am (a.take j)):=fun j hj=>kC fun i hi=>by
   rw[List.getElem_take];exact (ha i _).shape_len (dE a3 _)
  have a5:Yd ((Tm.mk k v s n a).count=1+am a):=rfl;have J:=zH (iC hn a2);have V:=zH (jQ h' a2);have b2:Yd ((Tm.mk k v s n a).shapeL=dec (cE (.mk k v s n a)).size++(58::((cE (.mk k v s n a)).data.toList++bp a))):=by unfold Yd;rw[Tm.shapeL]
  have U:=zH c8;unfold maxLen at hm;have Y:=zH hW;have r:=zH c0;have a7:=zH hF;obtain⟨A9,c9,rfl⟩:=hF.form;generalize (Tm.mk k v s n a).count=ct at*;generalize (Tm.mk k v s n a).shapeL=fe at*;generalize (cE (.mk k v s n a))=z at*;obtain⟨ln,L⟩:∃ m,Yd (z.size=m):=⟨_,rfl⟩;have f2:ln<=5000:=by rw[<-L.o];exact J.o
  generalize n.neg=ng at*;obtain⟨A1,q1,rfl,_⟩:=hA;obtain⟨B1,q2,rfl,_⟩:=hB;generalize n.num.length=m1 at*;generalize n.den.length=m2 at*;clear hr ha ih hn hk hs hW c8 c0 hF h' he a2 a3 hv;obtain⟨l,hl⟩:∃ l,a.length=l:=⟨_,rfl⟩;rw[hl]at e9 V ⊢;have HL:=zH hl;clear hl;have F:Yd (zZ W (W.alloc (.cells #[.int .i64 k,.int .i64 v,.string s,.bool ng,.slice A1 m1 q1,.slice B1 m2 q2,.slice Ar l Z] 27))):=ae W _;have b7:Yd (ah (W.alloc (.cells #[.int .i64 k,.int .i64 v,.string s,.bool ng,.slice A1 m1 q1,.slice B1 m2 q2,.slice Ar l Z] 27)) W.heap.size 27 (zX k v s ng A1 m1 q1 B1 m2 q2 Ar l Z).toArray):=ah.new W _ _;have X:Yd (∀ f,Calls prog 76 #[.int .i64 (ln:Int)] f fun e w'=>e=.returned (.string ⟨(dec ln).toArray⟩)/\zZ f w'):=fun f=>sI ln (by omega) f;obtain⟨g,I⟩:∃ d,Yd (dec ln=d):=⟨_,rfl⟩;have a1:g.length<=1300:=by rw[<-I.o];exact fQ (by omega)
  rw[I.o]at X;have a6:Yd ((⟨g.toArray⟩:ByteArray).size<=1300):=by show _<=_;simpa[ByteArray.size] using a1
  have P:Yd (fe=g++(58::(z.data.toList++bp a))):=by have:=b2.o;rw[L.o,I.o]at this;exact this
  have M:Yd (c.length<=1000000000):=by have:=U.o;show _<=_;omega
  have d4:Yd ((⟨g.toArray⟩:ByteArray).data.toList=g):=by unfold Yd;simp
  have G:=zH a1;have f1:z.size=ln:=L.o;clear b2 a1;go_enter func50,ntmps50;go_wp2_with fail;refine (V.o _ (by exact Y.o.trans (F.o.mono Y.o.size))).mono ?_;rintro e w1 ⟨rfl,a0⟩;have D:=zH (F.o.trans (a0.mono F.o.size));have b4:=zH (b7.o.to a0);clear a0 F b7 V;go_wp2_with fail;refine (X.o _).mono ?_;rintro e w2 ⟨rfl,N⟩;have q:=zH (D.o.trans (N.mono D.o.size));have a8:=zH ((a7.o.below D.o).below N);have b5:=zH (b4.o.to N);clear N D b4 X;have H1:Yd (c.length+(⟨g.toArray⟩:ByteArray).size<=100000000000):=by have:=M.o;have:=a6.o;show _<=_;omega
  have H2:Yd ((c++g).length+1<=100000000000):=by have:=M.o;have:=G.o;show _<=_;rw[zE];omega
  have H3:Yd ((c++g++[58]).length+z.size<=100000000000):=by have:=M.o;have:=G.o;have:=U.o;have:=J.o;have:=a5.o;show _<=_;simp only[zE,zV,List.length_nil];omega
  go_wp2_with (first
   |(at_builtin;refine vJ w2 rfl _ _ rfl B _ c ⟨g.toArray⟩ rfl rfl a8.o H1.o (zC r.o q.o.size) ?_;intro A3 n3 c3 w3 d0 c1;have a9:Yd (RB w3 B (.slice A3 n3 c3) (c++g)):=d0;have E:=zH c1;clear d0 c1)
   |(at_builtin;refine AP w3 58 58 rfl _ _ rfl B (.slice A3 n3 c3) (c++g) (by rfl) (by rfl) a9.o H2.o (zC r.o (zC q.o.size E.o.size)) rfl ?_;intro A4 n4 c4 w4 d1 c6;have b0:=zH d1;have Q:=zH c6;clear d1 c6)
   |(at_builtin;refine vJ w4 rfl _ _ rfl B (.slice A4 n4 c4) (c++g++[58]) z (by rfl) (by rfl) b0.o H3.o (zC r.o (zC q.o.size (zC E.o.size Q.o.size))) ?_;intro A5 n5 c5 w5 d3 c7;have b1:=zH d3;have S:=zH ((E.o.trans Q.o).trans c7);have b6:=zH (b5.o.ab S.o (by decide));have t6:=b6.o.cell 6;simp only[L3]at t6;clear d3 c7))
  have HE:Yd (c++fe=(c++g++[58]++z.data.toList)++bp a):=by rw[P.o];simp[Yd]
  have d6:Yd ((c++g++[58]++z.data.toList).length+10000*am a<=1000000000):=by
   have:=U.o;have:=a5.o;have:=J.o;have:=G.o;have e:z.data.toList.length=z.size:=Array.length_toList;show _<=_;simp only[zE,zV,List.length_nil,e];omega
  generalize hg:c++g++[58]++z.data.toList=l5 at*;have a4:Yd (AB B W w5):=(AB.of_below q.o r.o).trans S.o;have HY:Yd (RB w5 B (.slice A5 n5 c5) (l5++bp (a.take 0))/\AB B W w5):=⟨by rw[List.take_zero];simpa[bp] using b1.o,a4.o⟩;clear hg H1 H2 H3 a8 a9 b0 b1 q E Q S b5 b6 a7 P d4 G a6 I M f2 L f1 J t6;generalize (Value.slice A5 n5 c5)=v5 at*
  go_loopg [0,24] l (fun gk s0 f4 wr=>∃ (j:Nat) (ow:Value),gk+j=l/\f4=.int .i64 (j:Int)/\ow=s0/\Yd (RB wr B ow (l5++bp (a.take j))/\AB B W wr))
  case atStart=>exact⟨0,_,by omega,rfl,rfl,HY⟩
  case round=>
   clear HY a4;obtain⟨j,ow,f5,rfl,rfl,HJ⟩:=hrel;by_cases hj:j<l
   ·have O:j<a.length:=by rw[HL.o];exact hj
    have T:zZ w wr:=Y.o.trans (HJ.o.2.1.mono e7);obtain⟨b,o,k',v',s',f3,A2,n2,c2,B2,m3,d2,Xr,xl,xc,d8,f0,f6,e0,e1,e2,e3,e4,e5,e6⟩:=aZ HR.o HA.o T O;subst d8;have h1:=bq a O;have h5:=cH a (j+1);have h6:=d7.o j (by omega);have h7:=d6.o;have x:Yd (∀ f,zZ wr f->Calls prog 50 #[ow,.agg (zX k' v' s' f3 A2 n2 c2 B2 m3 d2 Xr xl xc).toArray] f fun e w'=>∃ p,e=.returned p/\Yd (RB w' B p (l5++bp (a.take (j+1)))/\AB B W w')):=fun f hb=>by
     have b8:B<=wr.heap.size:=zC r.o HJ.o.2.size;have e8:AB B wr f:=AB.of_below hb b8;have:=IH.o j O (l5++bp (a.take j)) ow (by rw[zE];omega) f (T.trans (hb.mono T.size)) (zC b8 hb.size) (HJ.o.1.below hb);rw[f0]at this;refine this.mono ?_;rintro e w' ⟨p,rfl,q1,q2⟩;rw[pV a O];exact⟨p,rfl,by rw[<-zJ];exact q1,(HJ.o.2.trans e8).trans q2⟩
    clear h1 h5 h6 h7;go_wp2_with fail;refine (x.o _ (by exact ae _ _)).mono ?_;rintro e w3 ⟨p,rfl,d5⟩;clear e0 e1 e2 e3 e4 e5 e6 x;go_wp2_with fail
    go_roundg (gk-1)
    case measure=>omega
    case rel=>exact⟨j+1,p,by omega,by go_num,rfl,d5⟩
   ·obtain rfl:j=l:=by omega
    have h2:=HJ.o;rw[zG (by rw[HL.o];exact zN _),<-HE.o]at h2;have b3:=zH h2;clear h2 HJ;go_wp2_with fail;go_ret;exact⟨ow,rfl,b3.o.1,b3.o.2⟩
theorem um {w:World} {t:Tm} {cs:List Value} (h:TC w t cs) (i:t.err0=0) (o:t.count<=10000) (W:World) (c:zZ w W):
 Calls prog 20 #[.agg cs.toArray] W fun e a=>e=.returned (.string ⟨t.shapeL.toArray⟩)/\zZ W a:=by
 have HS:Yd (∀ a,zZ W a->Calls prog 50 #[.slice none 0 0,.agg cs.toArray] a fun e d=>∃ b,e=.returned b/\(convert 83 9 b).run prog d=.ok (.string ⟨t.shapeL.toArray⟩) d/\Yd (zZ W d)):=fun a f=>by
  refine (xu W.heap.size c.size h i [] (.slice none 0 0) (by simp;omega) a (c.trans (f.mono c.size)) f.size (RB.nil _ _)).mono ?_;rintro e d ⟨b,rfl,q,r⟩;have n:0<([]++t.shapeL).length:=by cases t;rw[Tm.shapeL];simp;omega
  exact⟨b,rfl,by simpa using q.text n,f.trans r.1⟩
 obtain⟨k,v,s,E,x,D,A,z,C,B,y,l,m,g⟩:=h.form;subst g;generalize (⟨t.shapeL.toArray⟩:ByteArray)=F at*;clear h i o c;go_enter func20,ntmps20;go_wp2_with fail;refine (HS.o _ (by exact ae _ _)).mono ?_;rintro e G ⟨b,rfl,p,j⟩;go_wp2_with fail;go_ret;exact⟨rfl,j.o⟩
theorem pE {w:World} {t:Tm} {cs:List Value} (h:TC w t cs) (j:t.err0=0) (o:t.count<=10000) (W:World) (f:zZ w W):
 Calls prog 6 #[.agg cs.toArray] W fun e a=>e=.returned (.string ⟨t.shapeL.toArray⟩)/\zZ W a:=by
 have HS:Yd (∀ a,zZ W a->Calls prog 20 #[.agg cs.toArray] a fun e q=>e=.returned (.string ⟨t.shapeL.toArray⟩)/\Yd (zZ W q)):=fun a g=>by
  refine (um h j o a (f.trans (g.mono f.size))).mono ?_;rintro e q ⟨rfl,z⟩;exact⟨rfl,g.trans (z.mono g.size)⟩
 have c:∀ k v s b A B C,cs=[.int .i64 k,.int .i64 v,.string s,.bool b,A,B,C]->(k==0)=false:=fun k v s b A B C e=>by
  cases h with
  |mk V v' s' n m D F r d cs O U T L M Q p P S N=>
   simp only[List.cons.injEq,Value.int.injEq,true_and]at e;obtain⟨rfl,_⟩:=e;rw[beq_eq_false_iff_ne];rcases al (bB j).1 with ⟨rfl,_⟩|⟨_,_,_,_,⟨rfl,_⟩|⟨rfl,_⟩|⟨rfl,_⟩|⟨rfl,_⟩⟩<;>decide
 obtain⟨k,v,s,Z,E,Y,I,G,X,J,r,l,d,i⟩:=h.form;subst i;have y:=c _ _ _ _ _ _ _ rfl;generalize (⟨t.shapeL.toArray⟩:ByteArray)=sh at*;clear h j o f c;go_enter func6,ntmps6;go_wp2_with fail;refine (HS.o _ (by exact ae _ _)).mono ?_;rintro e w1 ⟨rfl,x⟩;go_wp2_with fail;go_ret;exact⟨rfl,x.o⟩
end Go.Proofs.YtlhojoefhannnaaGreat
namespace Go.Proofs.YtlhojoefhannnaaGreat
open Go.Proofs.Tryz Go.ChangeShapes Go.WideShapes Go.ChangeAt Go.RowKit Go.Joins Go.Deep NumB
def Tm.cell (x r:Tm):Tm:=.mk 5 0 ⟨#[46]⟩ ⟨false,[],[]⟩ [x,r]
def uQ (b:Nat):List Value:=[.int .i64 5,.int .i64 0,.string ⟨#[46]⟩,.bool false,.slice none 0 0,.slice none 0 0,.slice (some ⟨b,0,none⟩) 2 2]
theorem TC.cell {W:World} {b:Nat} {x r:Tm} {e w f y:Int} {t v:ByteArray} {g k:Bool} {l m n o p q:Value}
 (h:ah W b 27 #[.int .i64 e,.int .i64 w,.string t,.bool g,l,m,n,.int .i64 f,.int .i64 y,.string v,.bool k,o,p,q])
 (A:TC W x [.int .i64 e,.int .i64 w,.string t,.bool g,l,m,n]) (z:TC W r [.int .i64 f,.int .i64 y,.string v,.bool k,o,p,q]):
 TC W (.cell x r) (uQ b):=
 .mk 5 0 ⟨#[46]⟩ ⟨false,[],[]⟩ [x,r] (.slice none 0 0) (.slice none 0 0) (some ⟨b,0,none⟩) 2 (fun i=>if i=0 then [.int .i64 e,.int .i64 w,.string t,.bool g,l,m,n] else [.int .i64 f,.int .i64 y,.string v,.bool k,o,p,q]) ⟨by decide,by decide⟩ ⟨by decide,by decide⟩ (by decide) (dj W _) (dj W _) ⟨Ok.nil,Ok.nil⟩ zA (by decide)
  (fun _=>⟨b,0,rfl,h.lt,fun i a j B=>by
   have a:i<2:=a;rw[h.cell];have c:i=0\/i=1:=by omega
   have d:j=0\/j=1\/j=2\/j=3\/j=4\/j=5\/j=6:=by omega
   rcases c with rfl|rfl<;>rcases d with rfl|rfl|rfl|rfl|rfl|rfl|rfl<;>rfl⟩)
  (fun i a=>by
   have a:i<2:=a;have:i=0\/i=1:=by omega
   rcases this with rfl|rfl
   ·exact A
   ·exact z)
end Go.Proofs.YtlhojoefhannnaaGreat
namespace Go.Proofs.YtlhojoefhannnaaGreat
open Go.Proofs.Tryz Go.ChangeShapes Go.WideShapes Go.ChangeAt Go.RowKit Go.Joins Go.Deep NumB
def BC (w:World) (p:Int×Tm) (cs:List Value):Prop:=∃ ct,cs=.int .i64 p.1::ct/\aG p.1/\TC w p.2 ct
theorem BC.len {w:World} {p:Int×Tm} {cs:List Value} (h:BC w p cs):cs.length=8:=by
 obtain⟨b,rfl,_,a⟩:=h;rw[zV,a.len]
def BL (w:World) (v:Value) (ts:List (Int×Tm)):Prop:=∃ (Ar:Option Addr) (cap:Nat) (cs:Nat->List Value),v=.slice Ar ts.length cap/\ts.length<=cap/\cap<=maxLen/\
 (0<ts.length->∃ b o,Ar=some ⟨b,o,none⟩/\b<w.heap.size/\∀ i,i<ts.length->∀ j,j<8->w.cell? ⟨b,o+i*8+j,none⟩=(cs i)[j]?)/\∀ i (h:i<ts.length),BC w ts[i] (cs i)
theorem cD {w W:World} {args:List (Int×Tm)} {Ar:Option Addr} {cs:Nat->List Value} (G:0<args.length->∃ b o,Ar=some ⟨b,o,none⟩/\b<w.heap.size/\∀ i,i<args.length->∀ j,j<8->w.cell? ⟨b,o+i*8+j,none⟩=(cs i)[j]?)
 (B:∀ i (h:i<args.length),BC w args[i] (cs i)) (C:zZ w W) {j:Nat} (z:j<args.length):
 ∃ b o k v s x d t m f r n g l a,Ar=some ⟨b,o,none⟩/\TC w (args[j]).2 [.int .i64 k,.int .i64 v,.string s,.bool x,.slice d t m,.slice f r n,.slice g l a]/\b<w.heap.size/\
  W.cell? ⟨b,o+j*8,none⟩=some (.int .i64 (args[j]).1)/\W.cell? ⟨b,o+j*8+1,none⟩=some (.int .i64 k)/\W.cell? ⟨b,o+j*8+2,none⟩=some (.int .i64 v)/\W.cell? ⟨b,o+j*8+3,none⟩=some (.string s)/\W.cell? ⟨b,o+j*8+4,none⟩=some (.bool x)/\
  W.cell? ⟨b,o+j*8+5,none⟩=some (.slice d t m)/\W.cell? ⟨b,o+j*8+6,none⟩=some (.slice f r n)/\W.cell? ⟨b,o+j*8+7,none⟩=some (.slice g l a):=by
 obtain⟨b,o,e,c,D⟩:=G (by omega);obtain⟨I,y,J,A⟩:=B j z;obtain⟨k,v,s,x,d,t,m,f,r,n,g,l,a,E⟩:=A.form;subst E;have h:=fun q (F:q<8)=>(C.cell (p:=⟨b,o+j*8+q,none⟩) c).trans (D j z q F);rw[y]at h;exact⟨b,o,k,v,s,x,d,t,m,f,r,n,g,l,a,e,A,c,h 0 (by omega),h 1 (by omega),h 2 (by omega),h 3 (by omega),h 4 (by omega),h 5 (by omega),h 6 (by omega),h 7 (by omega)⟩
end Go.Proofs.YtlhojoefhannnaaGreat

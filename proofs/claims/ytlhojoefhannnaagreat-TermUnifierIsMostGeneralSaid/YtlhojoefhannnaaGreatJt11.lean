/- fetterlockref1.Decimal. Conditions: at most 10000 digits. And 14 more texts. -/
import Derived.Shelf.Strings.SlTrimAscii
import Derived.Laws.Runes
import Derived.Laws.IdiomStrings
import Derived.Test.YtlhojoefhannnaaGreatJt10
set_option linter.unusedVariables false
set_option linter.unusedSimpArgs false
set_option maxRecDepth 100000
set_option maxHeartbeats 51200000
namespace Go.Proofs.YtlhojoefhannnaaGreat
open Go.RowKit NumB
theorem um {xs out:List Nat} {j x d rest q r:Nat} (hj:0<j) (hl:j<=out.length) (hx:xs.getD (j-1) 0=x) (hjx:j<=xs.length) (hv:val cg (xs.drop j)=d*val cg (out.drop j)+rest)
 (he:rest*65536+x=d*q+r):val cg (xs.drop (j-1))=d*val cg ((out.set (j-1) q).drop (j-1))+r:=by
 have e1:xs.drop (j-1)=x::xs.drop j:=by
  rw[List.drop_eq_getElem_cons (by omega),<-cH (by omega),hx,Nat.sub_add_cancel hj]
 have e2:(out.set (j-1) q).drop (j-1)=q::out.drop j:=by
  rw[List.drop_eq_getElem_cons (by simp;omega),Nat.sub_add_cancel hj];simp[List.drop_set];omega
 rw[e1,e2,val_cons,val_cons,hv];have:cg=65536:=rfl;rw[this,Nat.mul_add,Nat.mul_add,Nat.mul_left_comm];omega
def Aw:Nat:=10
theorem rH:1<Aw:=by decide
def qD (x:Nat):List Nat:=(ai Aw x).map (48 + ·)
theorem vo {ds:List Nat} {c x:Nat} (hc:c≠0) (h:ds++qD c=qD x):(ds++[48+c % 10])++qD (c / 10)=qD x:=by
 rw[<-h];have:qD c=(48+c % 10)::qD (c / 10):=by
  unfold qD;rw[cY rH hc];rfl
 rw[this,List.append_assoc];rfl
theorem r9 {x n:Nat} (h:(ai cg x).length<=n):(qD x).length<=5*n:=by
 unfold qD;rw[List.length_map];refine aY rH (Nat.lt_of_lt_of_le (eZ bV) ?_);rw[Nat.pow_mul];exact Nat.le_trans (Nat.pow_le_pow_right (by decide) h) (Nat.pow_le_pow_left (by decide) n)
theorem oQ (x:Nat):((qD x).reverse).map (fun d=>d.toUInt8)=jy x:=by
 unfold qD jy Aw;rw[<-List.map_reverse,<-List.map_reverse,List.map_map];rfl
theorem wb {ds out:List Nat} {j L c:Nat} (hL:ds.length=L) (ho:out.length=L) (hj:j<L) (hc:ds.getD j 0=c) (h:out.drop (L-j)=(ds.take j).reverse):(out.set (L-1-j) c).drop (L-(j+1))=(ds.take (j+1)).reverse:=by
 have e:L-(j+1)=L-1-j:=by omega
 rw[e,List.drop_eq_getElem_cons (by simp;omega),List.take_succ_eq_append_getElem (by omega),List.reverse_append,<-h];have e2:L-1-j+1=L-j:=by omega
 rw[e2];simp[List.drop_set];constructor
 ·rw[<-hc,cH (by omega)]
 ·omega
theorem ny (x:Nat) (va:Value) (w:World) (ha:bC w va x) (hx:(ai cg x).length<=10000) (hx0:0<x):
 Calls Tryz.prog 93 #[va] w fun e w'=>e=.returned (.string ⟨(jy x).toArray⟩)/\Below w.heap.size w w':=by
 have HA:=zH ha;have HLD:=zH (r9 hx);have HLX:=zH hx;have HX0:=zH hx0;obtain⟨A,c,rfl,_⟩:=ha;obtain⟨n,hn⟩:∃ n,(ai cg x).length=n:=⟨_,rfl⟩;rw[hn]at HA ⊢;have hn0:((n:Int)==0)=false:=beq_eq_false_iff_ne.2 (by have:=(mb hn.symm).2 hx0;omega);clear hx0 hn;go_enter Tryz.func93,Tryz.ntmps93
 go_wp2
 go_loopg [0,3,4,5,6,7] x (fun gk s0 s3 s4 s5 s6 s7 wr=>∃ ds:List Nat,Hid (bC wr s0 gk/\aK .u8 5 wr w.heap.size s3 ds/\ds++qD gk=qD x/\gk<=x/\Below w.heap.size w wr))
 case atStart=>exact⟨[],HA.out,aK.nil_ _,rfl,Nat.le_refl _,Below.refl _ _⟩
 case round=>
  obtain⟨ds,HR⟩:=hrel;obtain⟨A0,c0,hu0,hc0,hm0,hr0⟩:=id HR.out.1;have hl0:(ai cg gk).length=(ai cg gk).length:=rfl;have hlb:(ai cg gk).length<=10000:=Nat.le_trans (eG bV HR.out.2.2.2.1) HLX.out;have hpz:=mb (x:=gk) rfl;have HX:=zH (And.intro (aR bV gk) (bz bV gk));generalize ai cg gk=xs at*;generalize hn2:xs.length=n0 at*;have HN0:=zH hn2;have HR0:=zH hr0;subst hu0;clear hl0 hn2 hr0;unfold maxLen at hm0;by_cases h0:gk=0
  ·subst h0;obtain rfl:n0=0:=by omega
   have hds:ds=qD x:=by have:=HR.out.2.2.1;unfold qD at this;rw[aP,List.map_nil,List.append_nil]at this;exact this
   have hdl:0<ds.length:=by
    rw[hds];refine List.length_pos_iff.2 fun h=>?_;unfold qD at h;have h1:=List.map_eq_nil_iff.1 h;have:=(cR rH).1 h1;have:=HX0.out;omega
   obtain⟨g3,c3,hv3,HO3⟩:∃ g3 c3,u3=.slice (some ⟨g3,0,none⟩) ds.length c3/\Hid (bT .u8 5 wr w.heap.size g3 ds.length c3 ds):=by
    rcases HR.out.2.1.form with ⟨_,h⟩|⟨g,c,h,ho⟩
    ·rw[h]at hdl;exact absurd hdl (by simp)
    ·exact⟨g,c,h,ho⟩
   subst hv3;have hLb:ds.length<=50000:=by rw[hds];exact HLD.out
   have HDT:Hid (ds.reverse.map (fun d=>d.toUInt8)=jy x):=by unfold Hid;rw[hds];exact oQ x
   have HBW:=zH HR.out.2.2.2.2;generalize hm:ds.length=L at*;have HM:=zH hm;obtain⟨i0,hi0,hz0,hz1,hz2⟩:=info_parts su;have HI:=zH hi0;have HZ0:=zH hz0;have HZ1:=zH hz1;have HZ2:=zH hz2;clear hi0 hz0 hz1 hz2 hds hm HR hpz
   go_wp2_with (at_make;refine wpList_make_full _ rfl _ _ 83 rfl wr.heap.size 5 i0 (.int .u8 0) 1 Tryz.underlying83 HI.out HZ0.out HZ1.out .i64 .i64 _ _ L rfl rfl rfl rfl (by rw[HZ2.out];omega) (by unfold maxLen;omega) (Nat.le_refl _) ?_;intro w1 hown1 hg1)
   have HOP:=zH (bT.made hown1);have HB1:=zH ((Below.refl wr.heap.size wr).grown hg1 (Nat.le_refl _) (by simp));clear hown1 hg1;obtain⟨wo,hwo⟩:∃ wo:World,wo=wr:=⟨_,rfl⟩;subst hwo;have hgo:=HO3.out.lt.2
   go_loopg [54,9,10] L (fun gj s54 s9 s10 wq=>∃ (j:Nat) (out:List Nat),gj+j=L/\s54=.int .i64 (j:Int)/\Hid (bT .u8 5 wq wo.heap.size wo.heap.size L L out)/\Hid (out.drop (L-j)=(ds.take j).reverse)/\Hid (Below wo.heap.size wo wq))
   case atStart=>exact⟨0,_,by omega,rfl,HOP.out,by unfold Hid;rw[List.drop_eq_nil_of_le (by simp)];rfl,HB1.out⟩
   case round=>
    obtain⟨j,out,hgj,rfl,HO,HE,HBQ⟩:=hrel;clear HOP HB1;by_cases hj:j<L
    ·obtain⟨p,hpe⟩:∃ p,ds.getD j 0=p:=⟨_,rfl⟩;have hcell:wr.cell? ⟨g3,j,none⟩=some (.int .u8 (p:Int)):=by rw[<-hpe];exact (HO3.out.to HBQ.out).cell hj
     have HP:=zH hpe;obtain⟨y,hy⟩:∃ y:Nat,wr.cell? ⟨wo.heap.size,L-1-j,none⟩=some (.int .u8 (y:Int)):=⟨_,HO.out.cell (by omega)⟩;have hf:=HO.out.frozen (L-1-j);have hix:((L:Int)-1-(j:Int))=((L-1-j:Nat):Int):=by omega
     have hix2:L-1-j<L:=by omega
     clear hpe
     go_wp2
     go_roundg (gk-1)
     case measure=>omega
     case rel=>exact⟨j+1,out.set (L-1-j) p,by omega,by go_num,HO.out.stored _ _,wb HM.out HO.out.1 hj HP.out HE.out,HBQ.out.setCell (Nat.le_refl _) _⟩
    ·obtain rfl:j=L:=by omega
     have hout:out=ds.reverse:=by
      have h:=HE.out;rw[Nat.sub_self,List.drop_zero,List.take_of_length_le (by rw[HM.out];exact Nat.le_refl _)]at h;exact h
     have hcv:=fun cap=>run_convert_bytes_arg (P:=Tryz.prog) wr 83 5 Tryz.underlying83 Tryz.underlying5 wo.heap.size 0 j cap (out.map Int.ofNat) (by rw[List.length_map,HO.out.1]) (fun i hi=>by
      rw[Nat.zero_add,HO.out.cell hi,kb _ _ (by rw[HO.out.1];exact hi)]) 9 Tryz.underlying9
     have hstr:strOfNums (out.map Int.ofNat)=⟨(jy x).toArray⟩:=by
      unfold strOfNums;rw[<-HDT.out,hout,List.map_map];rfl
     have hcv2:∀ cap,(convert 83 9 (.slice (some ⟨wo.heap.size,0,none⟩) j cap)).run Tryz.prog wr=.ok (.string ⟨(jy x).toArray⟩) wr:=fun cap=>by rw[hcv cap,hstr]
     clear hcv hstr hout
     go_wp2
     go_ret;exact⟨rfl,HBW.out.trans (HBQ.out.mono HBW.out.size)⟩
  ·have hnp:0<n0:=hpz.2 (by omega);have HG0:=zH h0;obtain⟨i0,hi0,hz0,hz1,hz2⟩:=info_parts ki;have HI:=zH hi0;have HZ0:=zH hz0;have HZ1:=zH hz1;have HZ2:=zH hz2;clear hi0 hz0 hz1 hz2 h0 hpz
   go_wp2_with (at_make;refine wpList_make_full _ rfl _ _ 139 rfl wr.heap.size 3 i0 (.int .i64 0) 1 Tryz.underlying139 HI.out HZ0.out HZ1.out .i64 .i64 _ _ n0 rfl rfl rfl rfl (by rw[HZ2.out];omega) (by unfold maxLen;omega) (Nat.le_refl _) ?_;intro w1 hown1 hg1)
   have HOP:=zH (bT.made hown1);have HB1:=zH ((Below.refl wr.heap.size wr).grown hg1 (Nat.le_refl _) (by simp));clear hown1 hg1;obtain⟨wo,hwo⟩:∃ wo:World,wo=wr:=⟨_,rfl⟩;subst hwo;obtain⟨cur,hcur⟩:∃ cur:Nat,cur=gk:=⟨_,rfl⟩;subst hcur
   go_loopg [4,6,7] (n0+1) (fun gj s4 s6 s7 wq=>∃ (j rest:Nat) (out:List Nat),gj=j+1/\j<=n0/\s6=.int .i64 ((j:Int)-1)/\s4=.int .i64 (rest:Int)/\rest<10/\Hid (bT .i64 3 wq wo.heap.size wo.heap.size n0 n0 out)/\Hid (Below wo.heap.size wo wq)/\Hid (val cg (xs.drop j)=10*val cg (out.drop j)+rest)/\Hid (Ok cg out))
   case atStart=>exact⟨n0,0,_,rfl,Nat.le_refl _,rfl,rfl,by omega,HOP.out,HB1.out,by unfold Hid;rw[<-HN0.out,List.drop_length,List.drop_eq_nil_of_le (by simp)];rfl,cf (by decide)⟩
   case round=>
    obtain⟨j,rest,out,rfl,hj,rfl,rfl,hrest,HO,HBQ,HV,HOo⟩:=hrel;clear HOP HB1;by_cases h0:0<j
    ·obtain⟨b,o,y,rfl,hb,hye,hcell⟩:=(HR0.out.below HBQ.out).at_ (i:=j-1) (by omega);have hyb:y<65536:=by rw[<-hye];exact HX.out.2.getD (by decide) _
     have HY:=zH hye;clear hye;obtain⟨z,hz⟩:∃ z:Nat,wr.cell? ⟨wo.heap.size,j-1,none⟩=some (.int .i64 (z:Int)):=⟨_,HO.out.cell (by omega)⟩;have hf:=HO.out.frozen (j-1);obtain⟨q,r,hq,hr',hqb,hrd,HEE⟩:∃ q r:Nat,((rest:Int)*65536+(y:Int)) / 10=(q:Int)/\((rest:Int)*65536+(y:Int)) % 10=(r:Int)/\q<65536/\r<10/\Hid (rest*65536+y=10*q+r):=
      ⟨(rest*65536+y) / 10,(rest*65536+y) % 10,by omega,by omega,by omega,by omega,by unfold Hid;omega⟩
     go_wp2
     go_roundg j
     case measure=>omega
     case rel=>exact⟨j-1,r,out.set (j-1) q,by omega,by omega,by congr 1;omega,congrArg (Value.int .i64) hr',hrd,HO.out.stored _ _,HBQ.out.setCell (Nat.le_refl _) _,um h0 (by rw[HO.out.1];exact hj) HY.out (by rw[HN0.out];exact hj) HV.out HEE.out,HOo.out.set hqb⟩
    ·obtain rfl:j=0:=by omega
     have hv:=HV.out;rw[List.drop_zero,List.drop_zero,HX.out.1]at hv;have HQV:Hid (cur / 10=val cg out/\cur % 10=rest):=⟨by omega,by omega⟩;have HDS:=zH (HR.out.2.1.to HBQ.out);have HDL:=zH (xN HR.out.2.1);have HBW:=zH (HR.out.2.2.2.2.trans (HBQ.out.mono HR.out.2.2.2.2.size));obtain⟨bt,hbt,hbtb,HBT⟩:∃ bt:Nat,(48:Int)+(rest:Int)=(bt:Int)/\bt<58/\Hid (bt=48+rest):=⟨48+rest,by omega,by omega,rfl⟩;have HLEN:Hid (ds.length+[bt].length<=1000000):=by have:=vS HR.out.2.2.1;have:=HLD.out;unfold Hid;simp;omega
     clear hv
     go_wp2_with (at_builtin;go_must (refine nT wr rfl _ _ 83 rfl .u8 5 1 Tryz.underlying83 su (by decide) w.heap.size _ ds [bt] (by rfl) (by rfl) HDS.out HLEN.out HBW.out.size _ rfl ?_);intro v2 w2 hown2 hb2 hg2)
     have hsl:Sl .i64 w2 (.slice (some ⟨wo.heap.size,0,none⟩) n0 n0) out:=by
      have h1:=HO.out.sl.to (I wr (.cells #[.int .u8 (bt:Int)] 5));refine Sl.blk h1 (hg2.block _ ?_ ?_) hg2.size
      ·have:=HO.out.lt.2;simp;omega
      ·intro e;have:=HDL.out _ e.symm;omega
     refine (my out _ _ hsl HOo.out).mono ?_;rintro e w3 ⟨v3,rfl,hn3,rfl⟩;rw[<-HQV.out.1]at hn3;have HN3:=zH hn3;have HW2:=zH hown2;have HBB:=zH hb2;clear hn3 hown2 hb2 hg2 hsl
     go_wp2
     go_roundg (cur / 10)
     case measure=>have:=HG0.out;omega
     case rel=>
      refine⟨ds++[bt],HN3.out,HW2.out,?_,Nat.le_trans (Nat.div_le_self _ _) HR.out.2.2.2.1,HBW.out.trans HBB.out⟩;rw[HBT.out,<-HQV.out.2];exact vo HG0.out HR.out.2.2.1
theorem bK (x:Nat) (va:Value) (w:World) (ha:bC w va x) (hx:(ai cg x).length<=10000):
 Calls Tryz.prog 93 #[va] w fun e w'=>e=.returned (.string ⟨(dec x).toArray⟩)/\Below w.heap.size w w':=by
 rcases Nat.eq_zero_or_pos x with h0|h0
 ·subst h0;obtain⟨A,c,rfl,_⟩:=ha;rw[aP];clear hx;have hb0:(((0:Nat):Int)==0)=true:=rfl;have E:Hid (dec 0=[48]):=rfl;go_enter Tryz.func93,Tryz.ntmps93
  go_wp2
  go_ret;rw[E.out];exact⟨rfl,Below.refl _ _⟩
 ·unfold dec;rw[if_neg (by omega)];exact ny x va w ha hx h0
def qO (xs ys:List Nat):Bool:=decide (xs=ys)
theorem vz {xs ys:List Nat} (h:xs=ys):qO xs ys=true:=decide_eq_true h
theorem lL {xs ys:List Nat} (h:xs≠ys):qO xs ys=false:=decide_eq_false h
theorem uF {xs ys:List Nat} {j:Nat} (h1:j<xs.length) (h2:j<ys.length) (h:xs.take j=ys.take j) (he:xs.getD j 0=ys.getD j 0):xs.take (j+1)=ys.take (j+1):=by
 rw[List.take_succ_eq_append_getElem h1,List.take_succ_eq_append_getElem h2,h,<-cH h1,<-cH h2,he]
def gO (a b:LN):Bool:=(a.neg==b.neg)&&(qO a.num b.num&&qO a.den b.den)
def vg (l:List UInt8) (c:UInt8):List UInt8×List UInt8×Bool:=
 if 0<=Lib.indexByte l c then (l.take (Lib.indexByte l c).toNat,l.drop ((Lib.indexByte l c).toNat+1),true) else (l,[],false)
def zh (l:List UInt8):Bool:=Lib.hasPrefix l [45]
def pO (l:List UInt8):List UInt8×List UInt8×Bool:=vg (Lib.trimPrefix l [45]) 114
def xO (l:List UInt8):Nat:=if (pO l).2.2 then gH (pO l).2.1 else 1
def pP (l:List UInt8):Int:=
 if 2500<l.length then 3 else if jH (pO l).1=false\/((pO l).2.2=true/\jH (pO l).2.1=false) then 6 else if xO l=0 then 10 else 0
def cO (neg:Bool) (x y:Nat):List UInt8:=(if neg then [45] else [])++dec x++(if y=1 then [] else 114::dec y)
def tA:ByteArray:=⟨#[45,48,54,114,52]⟩
def tB:ByteArray:=⟨#[55]⟩
def LN.q (a:LN):Rat:=RatB.q a.neg a.x a.y
def RV (w:World) (v:Value) (neg:Bool) (x y:Nat):Prop:=∃ A B,v=.agg #[.bool neg,A,B]/\bC w A x/\bC w B y
theorem RV.to {w w':World} {v:Value} {neg:Bool} {x y:Nat} (h:RV w v neg x y) (hb:Below w.heap.size w w'):RV w' v neg x y:=by
 obtain⟨A,B,e,h1,h2⟩:=h;exact⟨A,B,e,h1.to hb,h2.to hb⟩
theorem bC.form {w:World} {v:Value} {x:Nat} (h:bC w v x):∃ A n c,v=.slice A n c/\n=(ai cg x).length:=by
 obtain⟨A,c,e,_⟩:=h;exact⟨A,_,c,e,rfl⟩
theorem RV.form {w:World} {v:Value} {neg:Bool} {x y:Nat} (h:RV w v neg x y):∃ A n c B m d,v=.agg #[.bool neg,.slice A n c,.slice B m d]/\n=(ai cg x).length/\m=(ai cg y).length:=by
 obtain⟨A,B,rfl,h1,h2⟩:=h;obtain⟨A1,n,c,rfl,e1⟩:=h1.form;obtain⟨B1,m,d,rfl,e2⟩:=h2.form;exact⟨_,_,_,_,_,_,rfl,e1,e2⟩
theorem RV.parts {w:World} {s neg:Bool} {A B:Value} {x y:Nat} (h:RV w (.agg #[.bool s,A,B]) neg x y):s=neg/\bC w A x/\bC w B y:=by
 obtain⟨A',B',e,h1,h2⟩:=h;simp only[Value.agg.injEq,Array.mk.injEq,List.cons.injEq,Value.bool.injEq,and_true]at e;obtain⟨rfl,rfl,rfl⟩:=e;exact⟨rfl,h1,h2⟩
theorem bC.put3 {w:World} {v:Value} {x g:Nat} {t:TypeId} {neg:Bool} {A A':Option Addr} {n m ca cb:Nat} (h:bC w v x) (hg:af w g t #[.bool neg,.slice A n ca,.slice A' m cb]) (a b c:Value):bC (put3 w g a b c) v x:=
 Sl.boxed h hg ky (Nat.le_of_eq (mo w g a b c).symm) (pR w g a b c)
theorem RV.put3 {w:World} {v:Value} {neg s:Bool} {x y g:Nat} {t:TypeId} {A A':Option Addr} {n m ca cb:Nat} (h:RV w v neg x y) (hg:af w g t #[.bool s,.slice A n ca,.slice A' m cb]) (a b c:Value):RV (put3 w g a b c) v neg x y:=by
 obtain⟨va,vb,rfl,h1,h2⟩:=h;exact⟨va,vb,rfl,h1.put3 hg a b c,h2.put3 hg a b c⟩
def yP (w:World) (neg:Bool) (x y:Nat) (e:Ending) (w':World):Prop:=∃ v,e=.returned v/\RV w' v neg x y/\Below w.heap.size w w'
theorem As (w:World) (t u:TypeId) (a b:Array Value):af ((w.alloc (.cells a t)).alloc (.cells b u)) w.heap.size t a/\af ((w.alloc (.cells a t)).alloc (.cells b u)) (w.heap.size+1) u b:=by
 refine⟨(af.new w t a).alloc _,?_⟩;have:=af.new (w.alloc (.cells a t)) u b;simpa using this
theorem eM (w:World) (o1 o2:Obj):Below w.heap.size w ((w.alloc o1).alloc o2):=(I w o1).alloc (by simp) o2
theorem xV (a:LN) (v:Value) (w:World) (h:GV w v a) (hl1:a.num.length<=100000) (hl2:a.den.length<=100000):Calls Tryz.prog 96 #[v] w (yP w a.neg a.x a.y):=by
 obtain⟨A,B,rfl,ha,hb,ox,oy⟩:=h;have HN1:Hid (∀ (o1 o2:Obj),Calls Tryz.prog 125 #[A] ((w.alloc o1).alloc o2).drew (rR ((w.alloc o1).alloc o2).drew a.x)):=fun o1 o2=>pK a.num A _ (ha.to (eM w o1 o2).drew) ox hl1;have HN2:Hid (∀ (o1 o2:Obj) (W:World),Below ((w.alloc o1).alloc o2).drew.heap.size ((w.alloc o1).alloc o2).drew W->Calls Tryz.prog 125 #[B] W (rR W a.y)):=fun o1 o2 W hW=>pK a.den B _ ((hb.to (eM w o1 o2).drew).to hW) oy hl2;have HB0:Hid (∀ o1 o2:Obj,Below w.heap.size w ((w.alloc o1).alloc o2).drew):=fun o1 o2=>(eM w o1 o2).drew;obtain⟨A,ca,rfl,_⟩:=ha;obtain⟨A',cb,rfl,_⟩:=hb;generalize a.num.length=n at*;generalize a.den.length=m at*;generalize a.neg=neg at*;generalize a.x=x at*;generalize a.y=y at*;clear ox oy hl1 hl2;have HBK:=zH (As w 24 144 #[.bool neg,.slice A n ca,.slice A' m cb] #[.bool false,.slice none 0 0,.slice none 0 0]);have hk:∀ W1 W':World,Below W1.heap.size W1 W'->(W1.cell? ⟨w.heap.size,0,none⟩=some (.bool neg)/\W1.cell? ⟨w.heap.size,1,none⟩=some (.slice A n ca)/\W1.cell? ⟨w.heap.size,2,none⟩=some (.slice A' m cb)/\w.heap.size+1<W1.heap.size)->(W'.cell? ⟨w.heap.size,0,none⟩=some (.bool neg)/\W'.cell? ⟨w.heap.size,1,none⟩=some (.slice A n ca)/\W'.cell? ⟨w.heap.size,2,none⟩=some (.slice A' m cb)/\w.heap.size+1<W'.heap.size):=
  fun W1 W' h1 ⟨h3,h4,h5,h2⟩=>⟨(h1.cell (p:=⟨w.heap.size,0,none⟩) (by show w.heap.size<_;omega)).trans h3,(h1.cell (p:=⟨w.heap.size,1,none⟩) (by show w.heap.size<_;omega)).trans h4,(h1.cell (p:=⟨w.heap.size,2,none⟩) (by show w.heap.size<_;omega)).trans h5,Nat.lt_of_lt_of_le h2 h1.size⟩
 have HK:=zH hk;clear hk;go_enter Tryz.func96,Tryz.ntmps96;go_wp2_with fail
 go_region_held3 (fun w'=>w'.cell? ⟨w.heap.size,0,none⟩=some (.bool neg)/\w'.cell? ⟨w.heap.size,1,none⟩=some (.slice A n ca)/\w'.cell? ⟨w.heap.size,2,none⟩=some (.slice A' m cb)/\w.heap.size+1<w'.heap.size)
  (first|go_keep|(refine HK.out _ _ (by assumption) ?_;go_keep))
  (first
   |(go_at_call 125;((with_reducible refine (HN1.out _ _).mono ?_));rintro e w1 ⟨v1,rfl,hn1,hb1⟩)
   |(go_at_call 125;((with_reducible refine (HN2.out _ _ _ (by exact hb1)).mono ?_));rintro e w2 ⟨v2,rfl,hn2,hb2⟩;obtain⟨C1,_,d1,rfl,rfl⟩:=hn1.form;obtain⟨C2,_,d2,rfl,rfl⟩:=hn2.form;have hblk:=(HBK.out.2.drew.to hb1).to hb2;have hc0:=hblk.cell 0;have hc1:=hblk.cell 1;have hc2:=hblk.cell 2;have hf0:=hblk.frozen 0;have hf1:=hblk.frozen 1;have hf2:=hblk.frozen 2;simp only[L3]at hc0 hc1 hc2))
 all_goals
  go_wp2_with fail;refine bodyPost_ret (v:=.agg #[.bool neg,.slice C1 (ai cg x).length d1,.slice C2 (ai cg y).length d2]) (by simp[results,Tryz.results96,go_sem,hc0,hc1,hc2]) rfl ⟨_,rfl,?_,?_⟩
  ·exact RV.put3 (w:=w2) ⟨_,_,rfl,hn1.to hb2,hn2⟩ hblk _ _ _
  ·exact rx (((HB0.out _ _).trans (hb1.mono (HB0.out _ _).size)).trans (hb2.mono (Nat.le_trans (HB0.out _ _).size hb1.size))) (by omega) _ _ _
theorem LN.len16 {a:LN} (ho:a.ok) (h:a.err=0):(ai cg a.x).length<=256/\(ai cg a.y).length<=256:=by
 obtain⟨_,_,h3,h4,_⟩:=LN.good ho h;exact⟨gM ho.1 h3,gM ho.2 h4⟩
theorem fj (neg:Bool) (x y:Nat) (v:Value) (w:World) (h:RV w v neg x y) (hy:(ai cg y).length<=1000000):
 Calls Tryz.prog 135 #[v] w fun e w'=>e=.returned (.bool (ee y 1==0))/\Below w.heap.size w w':=by
 obtain⟨A1,A2,rfl,h1,h2⟩:=h;obtain⟨B1,n1,c1,rfl,e1⟩:=h1.form;obtain⟨B2,n2,c2,rfl,e2⟩:=h2.form;have HN:=zH h2;have HL:=zH hy;have HOne:∀ o:Obj,bC ((w.alloc o).alloc (.cells #[.int .i64 1] 3)) (.slice (some ⟨w.heap.size+1,0,none⟩) 1 1) 1:=fun o=>by
  have h:=Aa (w.alloc o);rw[show (w.alloc o).heap.size=w.heap.size+1 from by simp]at h;exact h
 clear h1 h2 e1 e2 hy;go_enter Tryz.func135,Tryz.ntmps135;go_wp2_with fail;refine (vY y 1 _ _ _ (by exact HN.out.to (eM w _ _)) (HOne _) HL.out (by rw[j7];decide)).mono ?_;rintro e w1 ⟨rfl,rfl⟩;go_wp2_with fail;go_ret;exact⟨rfl,eM w _ _⟩
theorem gK {y:Nat} (h:y=1):(ee y 1==0)=true:=by subst h;decide
theorem fL {y:Nat} (h:y≠1):(ee y 1==0)=false:=by
 rcases Nat.lt_trichotomy y 1 with h1|h1|h1
 ·rw[ik h1];rfl
 ·exact absurd h1 h
 ·rw[jG h1];rfl
theorem bp {x:Nat} (h:(ai cg x).length<=256):(dec x).length<=1300:=by
 have h1:=r9 h;unfold dec
 split
 ·simp
 ·rw[<-oQ,List.length_map,List.length_reverse];omega
theorem up (neg:Bool) (x y:Nat) (v:Value) (w:World) (h:RV w v neg x y) (hx:(ai cg x).length<=256) (hy:(ai cg y).length<=256):
 Calls Tryz.prog 95 #[v] w fun e w'=>e=.returned (.string ⟨(cO neg x y).toArray⟩)/\Below w.heap.size w w':=by
 obtain⟨A1,A2,rfl,h1,h2⟩:=h;obtain⟨B1,n1,c1,rfl,e1⟩:=h1.form;obtain⟨B2,n2,c2,rfl,e2⟩:=h2.form;have HNX:Hid (∀ o:Obj,bC (w.alloc o) (.slice B1 n1 c1) x/\bC (w.alloc o) (.slice B2 n2 c2) y):=fun o=>⟨h1.to (I _ _),h2.to (I _ _)⟩;have HLX:=zH (And.intro hx hy);have HBK:=zH (af.new w 144 #[.bool neg,.slice B1 n1 c1,.slice B2 n2 c2]);clear h1 h2 e1 e2 hx hy;cases neg with
 |false=>
  by_cases hy1:y=1
  ·have HO:=zH (gK hy1);have E:Hid (cO false x y=dec x):=by unfold Hid cO;rw[if_pos hy1];simp
   clear hy1;go_enter Tryz.func95,Tryz.ntmps95;go_wp2_with fail;refine (bK x _ _ (by exact (HNX.out _).1) (Nat.le_trans HLX.out.1 (by omega))).mono ?_;rintro e w1 ⟨rfl,hb1⟩;have hk:=HBK.out.to hb1;have c0:=hk.cell 0;have c1:=hk.cell 1;have c2:=hk.cell 2;simp only[L3]at c0 c1 c2;have HK1:=zH hk;have HB1:=zH hb1;clear hk hb1;have hlx:=bp HLX.out.1;generalize hdx:dec x=lx at*;clear hdx;go_wp2_with fail;refine (fj false x y _ _ ⟨_,_,rfl,(by exact (HNX.out _).1.to HB1.out),(by exact (HNX.out _).2.to HB1.out)⟩ (Nat.le_trans HLX.out.2 (by omega))).mono ?_;rintro e w3 ⟨he,hb3⟩;rw[HO.out]at he;subst he;clear c0 c1 c2;have hk:=HK1.out.to hb3;have c0:=hk.cell 0;have c1:=hk.cell 1;have c2:=hk.cell 2;simp only[L3]at c0 c1 c2;have HB3:=zH (HB1.out.trans (hb3.mono HB1.out.size));clear hk hb3;go_wp2_with fail;go_ret;rw[E.out];exact⟨rfl,(I w _).trans (HB3.out.mono (I w _).size)⟩
  ·have HO:=zH (fL hy1);have E:Hid (cO false x y=dec x++114::dec y):=by unfold Hid cO;rw[if_neg hy1];simp
   clear hy1;go_enter Tryz.func95,Tryz.ntmps95;go_wp2_with fail;refine (bK x _ _ (by exact (HNX.out _).1) (Nat.le_trans HLX.out.1 (by omega))).mono ?_;rintro e w1 ⟨rfl,hb1⟩;have hk:=HBK.out.to hb1;have c0:=hk.cell 0;have c1:=hk.cell 1;have c2:=hk.cell 2;simp only[L3]at c0 c1 c2;have HK1:=zH hk;have HB1:=zH hb1;clear hk hb1;have hlx:=bp HLX.out.1;generalize hdx:dec x=lx at*;clear hdx;go_wp2_with fail;refine (fj false x y _ _ ⟨_,_,rfl,(by exact (HNX.out _).1.to HB1.out),(by exact (HNX.out _).2.to HB1.out)⟩ (Nat.le_trans HLX.out.2 (by omega))).mono ?_;rintro e w3 ⟨he,hb3⟩;rw[HO.out]at he;subst he;clear c0 c1 c2;have hk:=HK1.out.to hb3;have c0:=hk.cell 0;have c1:=hk.cell 1;have c2:=hk.cell 2;simp only[L3]at c0 c1 c2;have HB3:=zH (HB1.out.trans (hb3.mono HB1.out.size));clear hk hb3;go_wp2_with fail;refine (bK y _ _ (by exact (HNX.out _).2.to HB3.out) (Nat.le_trans HLX.out.2 (by omega))).mono ?_;rintro e w4 ⟨rfl,hb4⟩;have HB4:=zH (HB3.out.trans (hb4.mono HB3.out.size));clear hb4;have hly:=bp HLX.out.2;generalize hdy:dec y=ly at*;clear hdy;go_wp2_with fail;go_ret;rw[E.out];exact⟨rfl,(I w _).trans (HB4.out.mono (I w _).size)⟩
 |true=>
  by_cases hy1:y=1
  ·have HO:=zH (gK hy1);have E:Hid (cO true x y=45::(dec x)):=by unfold Hid cO;rw[if_pos hy1];simp
   clear hy1;go_enter Tryz.func95,Tryz.ntmps95;go_wp2_with fail;refine (bK x _ _ (by exact (HNX.out _).1) (Nat.le_trans HLX.out.1 (by omega))).mono ?_;rintro e w1 ⟨rfl,hb1⟩;have hk:=HBK.out.to hb1;have c0:=hk.cell 0;have c1:=hk.cell 1;have c2:=hk.cell 2;simp only[L3]at c0 c1 c2;have HK1:=zH hk;have HB1:=zH hb1;clear hk hb1;have hlx:=bp HLX.out.1;generalize hdx:dec x=lx at*;clear hdx;go_wp2_with fail;refine (fj true x y _ _ ⟨_,_,rfl,(by exact (HNX.out _).1.to HB1.out),(by exact (HNX.out _).2.to HB1.out)⟩ (Nat.le_trans HLX.out.2 (by omega))).mono ?_;rintro e w3 ⟨he,hb3⟩;rw[HO.out]at he;subst he;clear c0 c1 c2;have hk:=HK1.out.to hb3;have c0:=hk.cell 0;have c1:=hk.cell 1;have c2:=hk.cell 2;simp only[L3]at c0 c1 c2;have HB3:=zH (HB1.out.trans (hb3.mono HB1.out.size));clear hk hb3;go_wp2_with fail;go_ret;rw[E.out];exact⟨rfl,(I w _).trans (HB3.out.mono (I w _).size)⟩
  ·have HO:=zH (fL hy1);have E:Hid (cO true x y=45::(dec x++114::dec y)):=by unfold Hid cO;rw[if_neg hy1];simp
   clear hy1;go_enter Tryz.func95,Tryz.ntmps95;go_wp2_with fail;refine (bK x _ _ (by exact (HNX.out _).1) (Nat.le_trans HLX.out.1 (by omega))).mono ?_;rintro e w1 ⟨rfl,hb1⟩;have hk:=HBK.out.to hb1;have c0:=hk.cell 0;have c1:=hk.cell 1;have c2:=hk.cell 2;simp only[L3]at c0 c1 c2;have HK1:=zH hk;have HB1:=zH hb1;clear hk hb1;have hlx:=bp HLX.out.1;generalize hdx:dec x=lx at*;clear hdx;go_wp2_with fail;refine (fj true x y _ _ ⟨_,_,rfl,(by exact (HNX.out _).1.to HB1.out),(by exact (HNX.out _).2.to HB1.out)⟩ (Nat.le_trans HLX.out.2 (by omega))).mono ?_;rintro e w3 ⟨he,hb3⟩;rw[HO.out]at he;subst he;clear c0 c1 c2;have hk:=HK1.out.to hb3;have c0:=hk.cell 0;have c1:=hk.cell 1;have c2:=hk.cell 2;simp only[L3]at c0 c1 c2;have HB3:=zH (HB1.out.trans (hb3.mono HB1.out.size));clear hk hb3;go_wp2_with fail;refine (bK y _ _ (by exact (HNX.out _).2.to HB3.out) (Nat.le_trans HLX.out.2 (by omega))).mono ?_;rintro e w4 ⟨rfl,hb4⟩;have HB4:=zH (HB3.out.trans (hb4.mono HB3.out.size));clear hb4;have hly:=bp HLX.out.2;generalize hdy:dec y=ly at*;clear hdy;go_wp2_with fail;go_ret;rw[E.out];exact⟨rfl,(I w _).trans (HB4.out.mono (I w _).size)⟩
theorem kY (x:Nat) (hx:x<18446744073709551616):bits .and .u64 (x:Int) 65535=((x % 65536:Nat):Int):=by
 have h:=u64_and (x:Int) 65535 (by omega) (by omega) (by omega) (by omega);rw[h];have e:(x:Int).toNat &&& (65535:Int).toNat=x % 65536:=by
  rw[Int.toNat_natCast,show (65535:Int).toNat=2 ^ 16-1 from rfl,Nat.and_two_pow_sub_one_eq_mod]
 rw[e]
theorem rC (x:Nat) (w:World) (hx:x<18446744073709551616):Calls Tryz.prog 94 #[.int .u64 (x:Int)] w (rR w x):=by
 have HL:Hid ((ai cg x).length<=4):=aY bV (by unfold cg;omega);go_enter Tryz.func94,Tryz.ntmps94
 go_wp2
 go_loopg [0,3] x (fun gk s0 s3 wr=>∃ out:List Nat,s0=.int .u64 (gk:Int)/\gk<18446744073709551616/\Hid (aK .i64 3 wr w.heap.size s3 out/\out++ai cg gk=ai cg x/\Below w.heap.size w wr))
 case atStart=>exact⟨[],rfl,hx,aK.nil_ _,rfl,Below.refl _ _⟩
 case round=>
  obtain⟨out,rfl,hg,HR⟩:=hrel;by_cases h0:gk=0
  ·subst h0
   go_wp2
   go_ret;obtain⟨h1,h2,h3⟩:=HR.out;rw[aP,List.append_nil]at h2;subst h2;exact⟨_,rfl,h1.sl,h3⟩
  ·have hpos:0<gk:=by omega
   have hand:=kY gk hg;obtain⟨lo,hlo⟩:∃ lo:Nat,gk % 65536=lo:=⟨_,rfl⟩;rw[hlo]at hand;have hlob:lo<65536:=by omega
   have HLO:=zH hlo;have HG0:=zH h0;have HLEN:Hid (out.length+[lo].length<=1000000):=by
    have h:=congrArg List.length HR.out.2.1;have:=HL.out;rw[List.length_append]at h;unfold Hid;simp;omega
   clear hlo h0
   go_wp2_with (at_builtin;go_must (refine jr wr rfl _ _ 139 rfl .i64 3 8 Tryz.underlying139 ki (by decide) w.heap.size _ out [lo] (by rfl) (by rfl) HR.out.1 HLEN.out HR.out.2.2.size _ rfl ?_);intro v1 w1 hown1 hb1)
   go_roundg (gk / 65536)
   case measure=>omega
   case rel=>
    refine⟨out++[lo],congrArg (Value.int .u64) (by omega),by omega,hown1,?_,HR.out.2.2.trans hb1⟩;rw[<-HR.out.2.1,cY bV HG0.out,List.append_assoc,<-HLO.out];rfl
def cC:Tm->ByteArray
 |.mk k v s n args=>if k=1 then (⟨#[118]⟩:ByteArray)++⟨(dec v.toNat).toArray⟩ else if k=2 then (⟨#[110]⟩:ByteArray)++⟨(cO n.neg n.x n.y).toArray⟩ else if k=3 then (⟨#[97]⟩:ByteArray)++s else if k=4 then (⟨#[115]⟩:ByteArray)++s else ((⟨#[99]⟩:ByteArray)++Utf8.encode (48+(args.length:Int)))++s
theorem xE (W:World) (s:ByteArray) (ng:Bool) (A1 B1 Ar:Option Addr) (m1 q1 m2 q2 l cap:Nat) (x:Nat) (hx:x<=1073741824):
 Calls Tryz.prog 75 #[.agg #[.int .i64 1,.int .i64 (x:Int),.string s,.bool ng,.slice A1 m1 q1,.slice B1 m2 q2,.slice Ar l cap]] W fun e W'=>e=.returned (.string ((⟨#[118]⟩:ByteArray)++⟨(dec x).toArray⟩))/\Below W.heap.size W W':=by
 have HBA:Hid (Below W.heap.size W (W.alloc (.cells #[.int .i64 1,.int .i64 (x:Int),.string s,.bool ng,.slice A1 m1 q1,.slice B1 m2 q2,.slice Ar l cap] 27))):=I W _;have hwu:IntKind.u64.wrap (x:Int)=(x:Int):=by rw[IntKind.wrap_u64];omega
 have HOI:Hid (∀ W',Calls Tryz.prog 94 #[.int .u64 (x:Int)] W' fun e w'=>∃ u,e=.returned u/\Hid (bC w' u x/\Below W'.heap.size W' w')):=fun W'=>(rC x W' (by omega)).mono (by rintro e w' ⟨u,rfl,q1,q2⟩;exact⟨u,rfl,q1,q2⟩);have HDC:Hid (∀ W' u,bC W' u x->Calls Tryz.prog 93 #[u] W' fun e w'=>e=.returned (.string ⟨(dec x).toArray⟩)/\Hid (Below W'.heap.size W' w')):=fun W' u h=>bK x u W' h (by
  have h3:(ai cg x).length<=2:=aY bV (by unfold cg;omega);omega)
 have HSZ:Hid ((⟨(dec x).toArray⟩:ByteArray).size<=1300):=by
  have h3:(ai cg x).length<=2:=aY bV (by unfold cg;omega);have:=bp (x:=x) (by omega);show _<=_;simpa[ByteArray.size] using this
 generalize (⟨(dec x).toArray⟩:ByteArray)=dx at*;have hadd:∀ W',(Op.stringOp .add ⟨#[118]⟩ dx).run Tryz.prog W'=.ok (.string ((⟨#[118]⟩:ByteArray)++dx)) W':=fun W'=>run_string_add_sum W' _ _ (by have h0:=HSZ.out;have h1:(⟨#[118]⟩:ByteArray).size=1:=rfl;omega);generalize ((⟨#[118]⟩:ByteArray)++dx)=rs at*;clear hx;go_enter Tryz.func75,Tryz.ntmps75;go_wp2_with fail;refine (HOI.out _).mono ?_;rintro e w1 ⟨u,rfl,HU⟩;have HW1:Hid (Below W.heap.size W w1):=HBA.out.trans (HU.out.2.mono HBA.out.size);have HC1:=zH (HDC.out _ _ HU.out.1);obtain⟨UA,uc,rfl,_⟩:=HU.out.1;clear HU HOI HDC hwu;go_wp2_with fail;refine HC1.out.mono ?_;rintro e w2 ⟨rfl,hb2⟩;have HW2:Hid (Below W.heap.size W w2):=HW1.out.trans (hb2.out.mono HW1.out.size);clear hb2 HC1;go_wp2_with fail;go_ret;exact⟨rfl,HW2.out⟩
theorem xF (W:World) (s:ByteArray) (ng:Bool) (A1 B1 Ar:Option Addr) (m1 q1 m2 q2 l cap:Nat) (v:Int) (ft:ByteArray) (hft:ft.size<=10000) (n x y:Nat) (hof:∀ W',Below W.heap.size W W'->Calls Tryz.prog 96 #[.agg #[.bool ng,.slice A1 m1 q1,.slice B1 m2 q2]] W' fun e w'=>∃ u,e=.returned u/\Hid (RV w' u ng x y/\Below W'.heap.size W' w')) (htx:∀ W' u,RV W' u ng x y->Calls Tryz.prog 95 #[u] W' fun e w'=>e=.returned (.string ft)/\Hid (Below W'.heap.size W' w')):
 Calls Tryz.prog 75 #[.agg #[.int .i64 2,.int .i64 v,.string s,.bool ng,.slice A1 m1 q1,.slice B1 m2 q2,.slice Ar l cap]] W fun e W'=>e=.returned (.string ((⟨#[110]⟩:ByteArray)++ft))/\Below W.heap.size W W':=by
 have HBA:Hid (Below W.heap.size W (W.alloc (.cells #[.int .i64 2,.int .i64 v,.string s,.bool ng,.slice A1 m1 q1,.slice B1 m2 q2,.slice Ar l cap] 27))):=I W _;have HNE:=zH hof;have HTX:=zH htx;have hadd:∀ W',(Op.stringOp .add ⟨#[110]⟩ ft).run Tryz.prog W'=.ok (.string ((⟨#[110]⟩:ByteArray)++ft)) W':=fun W'=>run_string_add_sum W' _ _ (by have h1:(⟨#[110]⟩:ByteArray).size=1:=rfl;omega);generalize ((⟨#[110]⟩:ByteArray)++ft)=rs at*;clear hof htx hft;go_enter Tryz.func75,Tryz.ntmps75;go_wp2_with fail;refine (HNE.out _ HBA.out).mono ?_;rintro e w1 ⟨u,rfl,HU⟩;have HW1:Hid (Below W.heap.size W w1):=HBA.out.trans (HU.out.2.mono HBA.out.size);have HC1:=zH (HTX.out _ _ HU.out.1);obtain⟨U1,un1,uc1,U2,un2,uc2,rfl,hq0⟩:=HU.out.1.form;clear hq0;clear HU HNE HTX;go_wp2_with fail;refine HC1.out.mono ?_;intro e w2 hq;have hb2:=hq.2;have he:=hq.1;clear hq;subst he;have HW2:Hid (Below W.heap.size W w2):=HW1.out.trans (hb2.out.mono HW1.out.size);clear hb2 HC1;go_wp2_with fail;go_ret;exact⟨rfl,HW2.out⟩
theorem xG (W:World) (s:ByteArray) (ng:Bool) (A1 B1 Ar:Option Addr) (m1 q1 m2 q2 l cap:Nat) (v:Int) (hs:s.size<=10000):
 Calls Tryz.prog 75 #[.agg #[.int .i64 3,.int .i64 v,.string s,.bool ng,.slice A1 m1 q1,.slice B1 m2 q2,.slice Ar l cap]] W fun e W'=>e=.returned (.string ((⟨#[97]⟩:ByteArray)++s))/\Below W.heap.size W W':=by
 have HBA:Hid (Below W.heap.size W (W.alloc (.cells #[.int .i64 3,.int .i64 v,.string s,.bool ng,.slice A1 m1 q1,.slice B1 m2 q2,.slice Ar l cap] 27))):=I W _;have hadd:∀ W',(Op.stringOp .add ⟨#[97]⟩ s).run Tryz.prog W'=.ok (.string ((⟨#[97]⟩:ByteArray)++s)) W':=fun W'=>run_string_add_sum W' _ _ (by have h1:(⟨#[97]⟩:ByteArray).size=1:=rfl;omega);generalize ((⟨#[97]⟩:ByteArray)++s)=rs at*;clear hs;go_enter Tryz.func75,Tryz.ntmps75;go_wp2_with fail;go_ret;exact⟨rfl,HBA.out⟩
theorem xH (W:World) (s:ByteArray) (ng:Bool) (A1 B1 Ar:Option Addr) (m1 q1 m2 q2 l cap:Nat) (v:Int) (hs:s.size<=10000):
 Calls Tryz.prog 75 #[.agg #[.int .i64 4,.int .i64 v,.string s,.bool ng,.slice A1 m1 q1,.slice B1 m2 q2,.slice Ar l cap]] W fun e W'=>e=.returned (.string ((⟨#[115]⟩:ByteArray)++s))/\Below W.heap.size W W':=by
 have HBA:Hid (Below W.heap.size W (W.alloc (.cells #[.int .i64 4,.int .i64 v,.string s,.bool ng,.slice A1 m1 q1,.slice B1 m2 q2,.slice Ar l cap] 27))):=I W _;have hadd:∀ W',(Op.stringOp .add ⟨#[115]⟩ s).run Tryz.prog W'=.ok (.string ((⟨#[115]⟩:ByteArray)++s)) W':=fun W'=>run_string_add_sum W' _ _ (by have h1:(⟨#[115]⟩:ByteArray).size=1:=rfl;omega);generalize ((⟨#[115]⟩:ByteArray)++s)=rs at*;clear hs;go_enter Tryz.func75,Tryz.ntmps75;go_wp2_with fail;go_ret;exact⟨rfl,HBA.out⟩
theorem xI (W:World) (s:ByteArray) (ng:Bool) (A1 B1 Ar:Option Addr) (m1 q1 m2 q2 l cap:Nat) (v:Int) (hs:s.size<=10000) (hl:l<=32):
 Calls Tryz.prog 75 #[.agg #[.int .i64 5,.int .i64 v,.string s,.bool ng,.slice A1 m1 q1,.slice B1 m2 q2,.slice Ar l cap]] W fun e W'=>e=.returned (.string (((⟨#[99]⟩:ByteArray)++Utf8.encode (48+(l:Int)))++s))/\Below W.heap.size W W':=by
 have HBA:Hid (Below W.heap.size W (W.alloc (.cells #[.int .i64 5,.int .i64 v,.string s,.bool ng,.slice A1 m1 q1,.slice B1 m2 q2,.slice Ar l cap] 27))):=I W _;have he:(Utf8.encode (48+(l:Int))).size=1:=by
  have:∀ m:Fin 33,(Utf8.encode (48+(m.val:Int))).size=1:=by decide +kernel
  exact this ⟨l,by omega⟩
 have hw1:IntKind.i64.wrap (48+(l:Int))=48+(l:Int):=by rw[IntKind.wrap_i64];omega
 have hw2:IntKind.i32.wrap (48+(l:Int))=48+(l:Int):=by rw[IntKind.wrap_i32];omega
 have hadd:∀ W',(Op.stringOp .add ⟨#[99]⟩ (Utf8.encode (48+(l:Int)))).run Tryz.prog W'=.ok (.string ((⟨#[99]⟩:ByteArray)++Utf8.encode (48+(l:Int)))) W':=fun W'=>run_string_add_sum W' _ _ (by have h1:(⟨#[99]⟩:ByteArray).size=1:=rfl;omega);have h2:((⟨#[99]⟩:ByteArray)++Utf8.encode (48+(l:Int))).size=2:=by rw[ByteArray.size_append,he];rfl
 generalize hen:(⟨#[99]⟩:ByteArray)++Utf8.encode (48+(l:Int))=en at*;have hadd2:∀ W',(Op.stringOp .add en s).run Tryz.prog W'=.ok (.string (en++s)) W':=fun W'=>run_string_add_sum W' _ _ (by omega);generalize en++s=rs at*;clear hs he h2 hl;go_enter Tryz.func75,Tryz.ntmps75;go_wp2_with fail;go_ret;exact⟨rfl,HBA.out⟩
theorem lY {w:World} {k v:Int} {s:ByteArray} {n:LN} {args:List Tm} {cs:List Value} (h:TC w (.mk k v s n args) cs) (hv:aJ k v s n.neg n.num.length n.den.length n.err args.length=0) (W:World) (hW:Below w.heap.size w W):
 Calls Tryz.prog 75 #[.agg cs.toArray] W fun e W'=>e=.returned (.string (cC (.mk k v s n args)))/\Below W.heap.size W W':=by
 cases h with
 |mk k v s n args A B Ar cap cs hk hvv hs hA hB hn hcap hm hr ha=>
  have HGV:∀ W',Below W.heap.size W W'->GV W' (.agg #[.bool n.neg,A,B]) n:=fun W' hb=>⟨A,B,rfl,hA.to (hW.trans (hb.mono hW.size)),hB.to (hW.trans (hb.mono hW.size)),hn⟩;obtain⟨A1,q1,rfl,_⟩:=hA;obtain⟨B1,q2,rfl,_⟩:=hB;unfold cC;rcases aj hv with ⟨rfl,a1,a2,a3,a4⟩|⟨_,_,_,_,⟨rfl,a1,a2,a3,a4⟩|⟨rfl,a1,a2,a3⟩|⟨rfl,a1,a2,a3⟩|⟨rfl,a1,a2,a3,a4⟩⟩
  ·have hg:=LN.good hn a3;have hl:=LN.len16 hn a3;have hx:=bp hl.1;have hy:=bp hl.2;refine xF W s n.neg A1 B1 Ar _ q1 _ q2 _ cap v ⟨(cO n.neg n.x n.y).toArray⟩ ?_ 0 n.x n.y (fun W' hb=>?_) (fun W' u h1=>?_)
   ·have hf:(cO n.neg n.x n.y).length<=2700:=by
     unfold cO
     (repeat' split)<;>simp<;>omega
    simp[ByteArray.size];omega
   ·refine (xV n _ W' (HGV W' hb) (Nat.le_trans hg.2.2.1 (by omega)) (Nat.le_trans hg.2.2.2.1 (by omega))).mono ?_;rintro e w' ⟨u,rfl,h1,h2⟩;exact⟨u,rfl,h1,h2⟩
   ·exact up n.neg n.x n.y u W' h1 hl.1 hl.2
  ·obtain⟨x,rfl⟩:∃ x:Nat,v=(x:Int):=⟨v.toNat,by omega⟩;exact xE W s n.neg A1 B1 Ar _ q1 _ q2 _ cap x (by omega)
  ·exact xG W s n.neg A1 B1 Ar _ q1 _ q2 _ cap v (by omega)
  ·exact xH W s n.neg A1 B1 Ar _ q1 _ q2 _ cap v (by omega)
  ·exact xI W s n.neg A1 B1 Ar _ q1 _ q2 _ cap v (by omega) a4
def RB (w:World) (B:Nat) (v:Value) (l:List UInt8):Prop:=w.ownsRow B 5 1 v l.length (Lib.byteCells l)
theorem RB.nil (w:World) (B:Nat):RB w B (.slice none 0 0) []:=World.ownsRow_nil _ _ _ _
theorem RB.below {w w':World} {B:Nat} {v:Value} {l:List UInt8} (h:RB w B v l) (hb:Below w.heap.size w w'):RB w' B v l:=av (ts:=[]) h (ar.of_below hb) (by simp)
theorem RB.form {w:World} {B:Nat} {v:Value} {l:List UInt8} (h:RB w B v l):∃ A c,v=.slice A l.length c:=bj h
theorem RB.mono {w:World} {B B':Nat} {v:Value} {l:List UInt8} (h:RB w B v l) (hb:B'<=B):RB w B' v l:=Joins.ownsRow_le h hb
def AB (B:Nat) (w w':World):Prop:=Below B w w'/\ar [some 5] w w'
theorem AB.refl (B:Nat) (w:World):AB B w w:=⟨Below.refl _ _,ar.refl _ _⟩
theorem AB.trans {B:Nat} {a b c:World} (h:AB B a b) (k:AB B b c):AB B a c:=⟨h.1.trans k.1,h.2.trans k.2⟩
theorem AB.of_below {B:Nat} {a b:World} (h:Below a.heap.size a b) (hB:B<=a.heap.size):AB B a b:=⟨h.mono hB,ar.of_below h⟩
theorem AB.size {B:Nat} {a b:World} (h:AB B a b):a.heap.size<=b.heap.size:=h.1.size
theorem af.ab {B:Nat} {w w':World} {g:Nat} {T:TypeId} {cs:Array Value} (hk:af w g T cs) (h:AB B w w') (hT:T≠5):af w' g T cs:=hk.frT h.2 (by simpa using hT)
theorem sV {ops:Array Oper} {rest:List Oper} {o:Oper} {a:Act} {Q:Exit->Act->World->Prop} (w:World) (hgd:o.guard=none) (sl x:Operand)
 (ho:o.op=.call { callee:=.builtin .append,args:=#[sl,x],argTypes:=#[83,9] })
 (B:Nat) (v:Value) (ls:List UInt8) (s:ByteArray) (hs:a.eval sl=v) (hx:a.eval x=.string s) (hR:RB w B v ls) (hsz:ls.length+s.size<=100000000000) (hB:B<=w.heap.size)
 (h:∀ A' n' c' w',RB w' B (.slice A' n' c') (ls++s.data.toList)->AB B w w'->wpList Tryz.prog ops Q rest (a.put o.dst (.slice A' n' c')) w'):wpList Tryz.prog ops Q (o::rest) a w:=by
 obtain⟨i0,hi0,hz0,hz1,hz2⟩:=info_parts ff;refine Lib.wpList_append_own_string w hgd sl x 83 9 ho B 5 i0 Tryz.underlying83 Tryz.underlying9 hi0 hz0 hz1 hz2 v ls.length _ hs hR s hx (by unfold maxLen;omega) (by omega) hB ?_;intro v' w' hr hg _;obtain⟨A',c',rfl⟩:=bj hr;refine h A' _ c' w' ?_ ⟨(Below.refl B w).grown hg hB fun k hk=>(World.ownsRow.lt hR k hk).1,(ar.refl _ w).grown hg fun k hk=>by obtain⟨cs,f,hc⟩:=Lib.ownsRow_kind hR k hk;exact⟨cs,_,f,hc,by simp⟩⟩;unfold RB;rw[List.length_append,Lib.byteCells_append];exact hr
theorem wG {ops:Array Oper} {rest:List Oper} {o:Oper} {a:Act} {Q:Exit->Act->World->Prop} (w:World) (c:UInt8) (z:Int) (hgd:o.guard=none) (sl x:Operand)
 (ho:o.op=.call { callee:=.builtin .append,args:=#[sl,x],argTypes:=#[83,83] })
 (B:Nat) (v:Value) (ls:List UInt8) (hs:a.eval sl=v) (hx:a.eval x=.slice (some ⟨w.heap.size,0,none⟩) 1 1) (hR:RB w B v ls) (hsz:ls.length+1<=100000000000) (hB:B<=w.heap.size)
 (hz:z=(c.toNat:Int))
 (h:∀ A' n' c' w',RB w' B (.slice A' n' c') (ls++[c])->AB B w w'->wpList Tryz.prog ops Q rest (a.put o.dst (.slice A' n' c')) w'):wpList Tryz.prog ops Q (o::rest) a (w.alloc (.cells #[.int .u8 z] 5)):=by
 subst hz;obtain⟨i0,hi0,hz0,hz1,hz2⟩:=info_parts ff;refine wpList_append_own_at _ hgd sl x 83 ho B 5 i0 (.int .u8 0) 1 1 Tryz.underlying83 hi0 hz0 hz1 hz2 rfl (by decide) v ls.length _ hs (World.ownsRow.alloc hR _) ⟨w.heap.size,0,none⟩ 1 1 [.int .u8 c.toNat] hx rfl (cell_one_new _ _ _) (by intro u hu;simp at hu;subst hu;rfl) (by unfold maxLen;omega) (by omega) (by simp;omega) ?_;intro v' w' hr hg _ _;obtain⟨A',c',rfl⟩:=bj hr;refine h A' _ c' w' ?_ ⟨((Below.refl B w).alloc hB _).grown hg (by simp;omega) fun k hk=>(World.ownsRow.lt hR k hk).1,(ar.of_below (I w _)).grown hg fun k hk=>by obtain⟨cs,f,hc⟩:=Lib.ownsRow_kind (World.ownsRow.alloc hR _) k hk;exact⟨cs,_,f,hc,by simp⟩⟩;unfold RB;rw[List.length_append,Lib.byteCells_append];exact hr
theorem RB.text {w:World} {B:Nat} {v:Value} {l:List UInt8} (h:RB w B v l) (h0:0<l.length):(convert 83 9 v).run Tryz.prog w=.ok (.string ⟨l.toArray⟩) w:=by
 rcases h.2 with ⟨_,h1⟩|⟨g,cap,cur,rfl,_⟩
 ·omega
 ·refine run_convert_bytes_back w 83 9 5 ⟨g,0,none⟩ cap l Tryz.underlying83 Tryz.underlying5 Tryz.underlying9 fun j hj=>?_;refine World.ownsRow.cells h (g:=g) rfl j _ ?_;unfold Lib.byteCells;rw[List.getElem?_map,List.getElem?_eq_getElem hj];rfl
end Go.Proofs.YtlhojoefhannnaaGreat

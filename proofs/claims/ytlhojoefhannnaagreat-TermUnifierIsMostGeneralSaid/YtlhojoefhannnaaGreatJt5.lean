/- nat.DivMod: quotient and remainder. Conditions: at most 50000 limbs, the divisor is not 0. And 19 more texts. -/
import Derived.Test.YtlhojoefhannnaaGreatShelf
import Derived.Laws.ResultCell
import Derived.Test.YtlhojoefhannnaaGreatJt4
set_option linter.unusedVariables false
set_option linter.unusedSimpArgs false
set_option maxRecDepth 100000
set_option maxHeartbeats 51200000
namespace Go.Proofs.YtlhojoefhannnaaGreat
open Go.RowKit NumB
theorem ri (w:World):ay w (.slice none 0 0) 0:=by
 unfold ay;rw[aP];exact (aK.nil_ (B:=0) (T:=0) w).sl
theorem wn:(Tryz.prog.info? 82).map (·.size)=some 1:=by kernel_rfl
def mJ (w:World) (q r:Nat) (e:Ending) (w':World):Prop:=∃ v u,e=.returned (.tuple #[v,u])/\ay w' v q/\ay w' u r/\Below w.heap.size w w'
theorem mU (x y:Nat) (va vb:Value) (w:World) (ha:ay w va x) (hb:ay w vb y) (hx:(ai ag x).length<=50000) (h:x<y):
 Calls Tryz.prog 157 #[va,vb] w (mJ w (x / y) (x % y)):=by
 have HA:=zH ha;have HB:=zH hb;have HC:Hid (ee x y = -1):=ik h;have HR:Hid (x / y=0/\x % y=x):=⟨Nat.div_eq_of_lt h,Nat.mod_eq_of_lt h⟩;clear ha hb h;go_enter Tryz.func157,Tryz.ntmps157;go_wp2_with fail;refine (fM x y va vb _ HA.out HB.out).mono ?_;rintro e w1 ⟨rfl,m,rfl⟩;rw[HC.out]
 go_wp2_with (go_at_call 49;refine (cL (ai ag x) _ _ (by exact HA.out) (by omega)).mono ?_;rintro e w2 ⟨v2,rfl,hown,hbel⟩)
 go_ret2
 rw[HR.out.1,HR.out.2];exact⟨_,_,rfl,ri _,hown.sl,eD hbel⟩
theorem qN (x y:Nat) (va vb:Value) (w:World) (ha:ay w va x) (hb:ay w vb y) (hx:(ai ag x).length<=50000) (hy0:0<y) (h:y<=x) (h1:(ai ag y).length=1):
 Calls Tryz.prog 157 #[va,vb] w (mJ w (x / y) (x % y)):=by
 have HA:=zH ha;have HB:=zH hb;have hc:0<=ee x y:=i8.2 h;have hy:y<4294967296:=by have:=eZ (n:=y) az;rw[h1,Nat.pow_one]at this;exact this
 have HY:Hid (ai ag y=[y]):=eY az (Ok.cons hy Ok.nil) (by simp[kV];omega) (by simp);obtain⟨A,c,rfl,hcb,hmb,hrb⟩:=hb;rw[HY.out]at hrb hcb;rw[h1];obtain⟨b,o,p,rfl,hbl,hpe,hcell⟩:=hrb.at_ (i:=0) (by simp);rw[Nat.add_zero]at hcell;have:p=y:=by rw[<-hpe];rfl
 subst this;clear ha hrb hpe h h1 hcb;obtain⟨cm,hcm⟩:∃ cm,cm=ee x p:=⟨_,rfl⟩;have HCM:=zH hcm;rw[<-hcm]at hc;clear hcm;go_enter Tryz.func157,Tryz.ntmps157;go_wp2_with fail;refine (fM x p va _ _ HA.out (by have h:=HB.out;unfold ay at *;rw[HY.out]at *;exact h)).mono ?_;rintro e w1 ⟨rfl,m,rfl⟩;rw[<-HCM.out];go_wp2_with fail;refine (mW x p va _ (by exact HA.out) (by omega) hy0 hy).mono ?_;rintro e w2 ⟨v2,rfl,hq,hbel⟩;have hr1:x % p<4294967296:=by have:=Nat.mod_lt x hy0;omega
 generalize hxp:x % p=r at*;have HXP:=zH hxp;have HQ:=zH hq;have HBE:=zH hbel;clear hxp hq hbel;go_wp2_with fail;refine (zf r _ (by omega)).mono ?_;rintro e w3 ⟨v3,rfl,hr3,hb3⟩
 go_wp2
 go_ret2
 exact⟨_,_,rfl,Sl.to HQ.out hb3,hr3,eD (HBE.out.trans (hb3.mono HBE.out.size))⟩
theorem zr (us:List Nat) (i n:Nat):us.take i++(us.drop i).take (n+1)++us.drop (i+n+1)=us:=by
 rw[show i+n+1=i+(n+1) from by omega,<-List.drop_drop,List.append_assoc,List.take_append_drop,List.take_append_drop]
theorem jh {B g:Nat} {a w w':World} (h:Below B a w) (hg:w.grownBy w' (some g)) (hB:B<=w.heap.size) (hgB:B<=g):Below B a w':=
 h.grown hg hB (fun k hk=>by injection hk with hk;omega)
theorem oV (x y:Nat) (va vb:Value) (w:World) (ha:ay w va x) (hb:ay w vb y) (hx:(ai ag x).length<=50000) (h:y<=x) (n:Nat) (h1:(ai ag y).length=n) (hn2:2<=n):
 Calls Tryz.prog 157 #[va,vb] w (mJ w (x / y) (x % y)):=by
 have HA:=zH ha;have HB:=zH hb;have hc:0<=ee x y:=i8.2 h;have hnl:n<=(ai ag x).length:=by rw[<-h1];exact eG az h
 obtain⟨top,htop⟩:∃ top,(ai ag y).getD (n-1) 0=top:=⟨_,rfl⟩;have htb:top<4294967296:=by rw[<-htop];exact (bz az y).getD (by decide) _
 obtain⟨bl,hbl⟩:∃ bl,Lib.bitLen top=bl:=⟨_,rfl⟩;obtain⟨n1,n2,n3,n4,n5⟩:=rr (by omega) h1 htop hbl;obtain⟨A,c,rfl,hcb,hmb,hrb⟩:=hb;obtain⟨A0,c0,rfl,hca,hma,hra⟩:=ha;rw[h1]at hrb hcb ⊢;have hxl:=eZ (n:=x) az;generalize hla:(ai ag x).length=la at*;obtain⟨b,o,p,rfl,hbb,hpe,hcell⟩:=hrb.at_ (i:=n-1) (by omega);obtain rfl:p=top:=by rw[<-hpe,htop]
 have hlb:(Lib.bitLen ((p:Int)).toNat:Int)=(bl:Int):=by rw[Int.toNat_natCast,hbl]
 obtain⟨s,hs⟩:∃ s,s=32-bl:=⟨_,rfl⟩;rw[<-hs]at n3 n4;have hsi:(32:Int)-(bl:Int)=(s:Int):=by omega
 have hs31:s<32:=by omega
 obtain⟨cm,hcm⟩:∃ cm,cm=ee x y:=⟨_,rfl⟩;have HCM:=zH hcm;rw[<-hcm]at hc;have HN:Hid ((ai ag (y*2 ^ s)).length=n/\2147483648<=(ai ag (y*2 ^ s)).getD (n-1) 0/\ag ^ (n-1)<=y):=⟨n3,n4,n5⟩;have HLB:=zH (And.intro hlb hsi);have HXL:=zH hxl;have HB2:Hid (ay w (.slice (some ⟨b,o,none⟩) n c) y):=by
  have h:=HB.out;unfold ay at*;rw[h1]at h;exact h
 have HA2:Hid (ay w (.slice A0 la c0) x):=HA.out;have HLA:=zH hla;have HH1:=zH h1;have hb1:((n:Int)==1)=false:=beq_eq_false_iff_ne.2 (by omega);unfold maxLen at hmb hma;clear hcm hla h1 htop hbl hpe hxl n3 n4 n5 hrb hra hlb hsi hs n1 n2;go_enter Tryz.func157,Tryz.ntmps157;go_wp2_with fail;refine (fM x y _ _ _ HA2.out HB2.out).mono ?_;rintro e w1 ⟨rfl,m,rfl⟩;rw[<-HCM.out];go_wp2_with fail;refine (Tryz.bits_LeadingZeros32 (p:Int) _ (by omega) (by omega)).mono ?_;rintro e w1 ⟨rfl,rfl⟩;rw[HLB.out.1,HLB.out.2];go_wp2_with fail;refine (sP y s _ _ (by exact HB2.out) (by rw[HH1.out];omega) (by omega)).mono ?_;rintro e w1 ⟨vv,rfl,hvv,hbel1⟩;have hbel1':=eD hbel1;have HB1:=zH hbel1';obtain⟨Av,cv,rfl,hcv,hmv,hrv⟩:=hvv;rw[HN.out.1]at hrv hcv ⊢;have HRV:=zH hrv;clear hrv hbel1 hbel1';obtain⟨i0,hi0,hz0,hz1,hz2⟩:=info_parts fS;have HI:=zH hi0;have HZ0:=zH hz0;have HZ1:=zH hz1;have HZ2:=zH hz2;clear hi0 hz0 hz1 hz2;obtain⟨gu,hgu⟩:∃ gu,gu=w1.heap.size:=⟨_,rfl⟩;have HGU:=zH hgu
 go_wp2_with (at_make;refine wpList_make_full _ rfl _ _ 22 rfl w.heap.size 82 i0 (.int .u32 0) 1 Tryz.underlying22 HI.out HZ0.out HZ1.out .i64 .i64 _ _ (la+1) rfl rfl (by omega) (by omega) (by rw[HZ2.out];omega) (by unfold maxLen;omega) HB1.out.size ?_;intro w2 hown2 hg2)
 rw[<-hgu]at hown2 ⊢;have HO2:=zH (bT.made hown2);have HB2':=zH (HB1.out.grown hg2 HB1.out.size (by simp));have HBV2:Hid (Below gu w1 w2):=(Below.refl gu w1).grown hg2 (by rw[hgu];exact Nat.le_refl _) (by simp);have HGW:Hid (w.heap.size<=gu):=by rw[hgu];exact HB1.out.size
 have HRV':Hid (Rd .u32 w1 gu Av n (ai ag (y*2 ^ s))):=by rw[hgu];exact HRV.out
 have HGL2:Hid (gu<w2.heap.size):=HO2.out.lt.2;clear hown2 hg2 hgu;refine (sP x s _ _ (HA2.out.to HB2'.out) (by rw[HLA.out];omega) (by omega)).mono ?_;rintro e w3 ⟨v3,rfl,⟨A3,c3,rfl,hc3,hm3,hr3⟩,hb3⟩;have hl3:(ai ag (x*2 ^ s)).length<=la+1:=by
  refine aY az ?_;have h2:(2:Nat) ^ s<=ag:=by rw[show ag=2 ^ 32 from rfl];exact Nat.pow_le_pow_right (by omega) (by omega)
  have h3:=Nat.mul_lt_mul_of_pos_right HXL.out (Nat.pow_pos (n:=s) (show 0<2 by omega));have h4:ag ^ la*2 ^ s<=ag ^ (la+1):=by rw[Nat.pow_succ];exact Nat.mul_le_mul_left _ h2
  omega
 generalize hl3e:(ai ag (x*2 ^ s)).length=l3 at*;have HL3:=zH hl3e;have HR3:=zH hr3;have HB3:=zH hb3;have HO3:Hid (bT .u32 82 w3 w.heap.size gu (la+1) (la+1) (List.replicate (la+1) 0)):=HO2.out.to hb3;clear hl3e hr3 hb3;unfold maxLen at hm3 hmv
 go_wp2_with (first
  |((with_reducible refine jD rfl (.tmp 48) (.tmp 51) 22 22 rfl 82 Tryz.underlying22 wn .u32 82 w.heap.size gu (la+1) (List.replicate (la+1) 0) (ai ag (x*2 ^ s)) A3 l3 c3 rfl rfl HO3.out HR3.out hl3 ?_);intro w4 hown4 hb4)
  |(at_make;refine wpList_make_full _ rfl _ _ 22 rfl w.heap.size 82 i0 (.int .u32 0) 1 Tryz.underlying22 HI.out HZ0.out HZ1.out .i64 .i64 _ _ (la+1-n) rfl rfl (by omega) (by omega) (by rw[HZ2.out];omega) (by unfold maxLen;omega) (Nat.le_trans HB2'.out.size (Nat.le_trans HB3.out.size hb4.size)) ?_;intro w5 hown5 hg5))
 obtain⟨gq,hgq⟩:∃ gq,gq=w4.heap.size:=⟨_,rfl⟩;rw[<-hgq]at hown5 ⊢;obtain⟨us0,hus0⟩:∃ us0,us0=ai ag (x*2 ^ s)++List.drop l3 (List.replicate (la+1) 0):=⟨_,rfl⟩;rw[<-hus0]at hown4;have HU0:Hid (val ag us0=x*2 ^ s/\Ok ag us0/\us0.length=la+1):=by
  subst hus0;refine⟨?_,(bz az _).append ((cf (by decide)).drop _),?_⟩
  ·rw[List.drop_replicate,i5,aR az]
  ·rw[List.length_append,List.length_drop,List.length_replicate,HL3.out];omega
 have HQ5:=zH (bT.made hown5);have HB4:Hid (Below w.heap.size w w4):=((HB2'.out.trans (HB3.out.mono HB2'.out.size)).trans (hb4.mono HGW.out));have HBV4:Hid (Below gu w1 w4):=(HBV2.out.trans (HB3.out.mono (Nat.le_of_lt HGL2.out))).trans hb4;have HB5:Hid (Below w.heap.size w w5):=HB4.out.grown hg5 HB4.out.size (by simp);have HGUQ:Hid (gu<gq):=by rw[hgq];exact Nat.lt_of_lt_of_le HGL2.out (Nat.le_trans HB3.out.size hb4.size)
 have HBV5:Hid (Below gu w1 w5):=HBV4.out.grown hg5 (by rw[<-hgq];exact Nat.le_of_lt HGUQ.out) (by simp);have HU5:Hid (bT .u32 82 w5 w.heap.size gu (la+1) (la+1) us0):=hown4.block (hg5.block gu hown4.lt.2 (by simp));have HWG:Hid (w.heap.size<=gq):=by rw[hgq];exact HB4.out.size
 clear hown4 hown5 hg5 hb4 hgq hus0;obtain⟨mq,hmq⟩:∃ mq,mq=la+1-n:=⟨_,rfl⟩;rw[<-hmq]at HQ5 ⊢;have HMQ:=zH hmq;have hmq1:mq+n=la+1:=by omega
 have HV0:Hid (0<y*2 ^ s/\y*2 ^ s<=ag ^ n/\0<y):=by
  have h1:=eZ (n:=y*2 ^ s) az;rw[HN.out.1]at h1;have h2:0<y:=Nat.lt_of_lt_of_le (Nat.pow_pos (by decide)) HN.out.2.2;exact⟨Nat.mul_pos h2 (Nat.pow_pos (by omega)),Nat.le_of_lt h1,h2⟩
 have HINV:Hid (gS (x*2 ^ s) (y*2 ^ s) us0 (List.replicate mq 0) mq):=by
  rw[hmq];exact tJ HXL.out HN.out.2.2 (by omega) (by omega) (Nat.pow_pos (by omega)) HU0.out.1
 clear hmq;have HM1:=zH hmq1;have hmq2:mq+n<=la+1:=by omega
 have hmq3:la+1<=mq+n:=by omega
 clear hmq1
 go_loopg [12] (mq+1) (fun g si wr=>∃ (j:Nat) (us qs:List Nat),g=j+1/\j<=mq/\si=.int .i64 ((j:Int)-1)/\Hid (bT .u32 82 wr w.heap.size gu (la+1) (la+1) us)/\Hid (bT .u32 82 wr w.heap.size gq mq mq qs)/\Hid (Ok ag us/\Ok ag qs)/\Hid (gS (x*2 ^ s) (y*2 ^ s) us qs j)/\Hid (Below w.heap.size w wr)/\Hid (Below gu w1 wr))
 case atStart=>exact⟨mq,us0,_,rfl,Nat.le_refl _,rfl,HU5.out,HQ5.out,⟨HU0.out.2.1,cf (by decide)⟩,HINV.out,HB5.out,HBV5.out⟩
 case round=>
  obtain⟨j,us,qs,rfl,hj,rfl,HU,HQ,HOK,HIN,HBW,HBV⟩:=hrel;by_cases h0:0<j
  ·obtain⟨i,rfl⟩:∃ i,j=i+1:=⟨j-1,by omega⟩;have hjc:((i+1:Nat):Int)-1=(i:Int):=by omega
   rw[hjc];clear hjc;have hul:us.length=la+1:=HU.out.1;have hcl:((us.drop i).take (n+1)).length=n+1:=by rw[List.length_take,List.length_drop];omega
   have hcur:=se HIN.out HOK.out.1 HV0.out.2.1 (by omega:i+n+1<=us.length);have HKD:Hid (KD ((us.drop i).take (n+1)) (ai ag (y*2 ^ s)) n _ _ _ _):=⟨hcl,HN.out.1,(HOK.out.1.drop _).take _,bz az _,hn2,rfl,rfl,rfl,rfl,HN.out.2.1,by rw[aR az,hcur.1];exact hcur.2.1⟩;have HCL:=zH hcl;have HUL:=zH hul;clear hcl hcur hul;go_wp2_with fail;rw[show i+n+1-i=n+1 from by omega];refine (tH (us.take i) ((us.drop i).take (n+1)) (us.drop (i+n+1)) (ai ag (y*2 ^ s)) gu w.heap.size (la+1) (la+1) i n (la+1-i) cv Av wr (by rw[zr];exact HU.out) (by rw[List.length_take,HUL.out];omega) (HRV'.out.below HBV.out) _ _ _ _ HKD.out (by omega) (by omega) (by omega)).mono ?_;rintro e w6 ⟨us',rfl,hown6,hl6,hok6,hv6,hg6⟩;rw[aR az]at hv6 ⊢;have HQ6:Hid (bT .u32 82 w6 w.heap.size gq mq mq qs):=HQ.out.block (hg6.block gq HQ.out.lt.2 (fun e=>by injection e with e;have:=HGUQ.out;omega));have hqd:val ag ((us.drop i).take (n+1)) / (y*2 ^ s)<4294967296:=by have:=HKD.out.div_lt;rw[aR az]at this;exact this
   generalize hqe:val ag ((us.drop i).take (n+1)) / (y*2 ^ s)=qd at*;have HQE:=zH hqe;have H6:Hid (bT .u32 82 w6 w.heap.size gu (la+1) (la+1) (us.take i++us'++us.drop (i+n+1))/\us'.length=n+1/\Ok ag us'/\val ag us'=val ag ((us.drop i).take (n+1)) % (y*2 ^ s)/\wr.grownBy w6 (some gu)):=⟨hown6,hl6,hok6,hv6,hg6⟩;obtain⟨yq,hyq⟩:∃ yq:Nat,w6.cell? ⟨gq,i,none⟩=some (.int .u32 (yq:Int)):=⟨_,HQ6.out.cell (by omega)⟩;have hfq:=HQ6.out.frozen i;clear hown6 hl6 hok6 hv6 hg6 hqe
   go_wp2
   go_roundg (i+1)
   case measure=>omega
   case rel=>
    obtain⟨o1,o2,o3,o4,o5⟩:=H6.out;refine⟨i,us.take i++us'++us.drop (i+n+1),qs.set i qd,rfl,by omega,rfl,o1.far (by show gu≠gq;have:=HGUQ.out;omega) _,HQ6.out.stored _ _,⟨((HOK.out.1.take _).append o3).append (HOK.out.1.drop _),HOK.out.2.set hqd⟩,?_,(jh HBW.out o5 HBW.out.size HGW.out).setCell HWG.out _,(jh HBV.out o5 (Nat.le_of_lt HU.out.lt.2) (Nat.le_refl _)).setCell (Nat.le_of_lt HGUQ.out) _⟩;have hs:=vp (cur':=us') HIN.out HOK.out.1 HV0.out.1 HV0.out.2.1 (by rw[HUL.out];omega) (by rw[HQ.out.1];omega) o2 o4;rw[HQE.out]at hs;exact hs
  ·obtain rfl:j=0:=by omega
   clear h0 hj;have hend:=xp HV0.out.2.2 HIN.out;have HEND:=zH hend;clear hend;go_wp2_with fail;refine (jL us _ _ HU.out.sl HOK.out.1).mono ?_;rintro e w7 ⟨v7,rfl,hn7,rfl⟩;have hl7:(ai ag (val ag us)).length<=100000:=by
    have h1:=gp HOK.out.1;rw[HU.out.1]at h1;have:=aY az h1;omega
   have HN7:=zH hn7;clear hn7;go_wp2_with fail;refine (yh (val ag us) s _ _ HN7.out hl7 (by omega)).mono ?_;rintro e w8 ⟨v8,rfl,hn8,hb8⟩;rw[HEND.out.2]at hn8;have HN8:=zH hn8;have HB8:=zH hb8;have HQ8:=zH (HQ.out.to hb8);clear hn8 hb8;go_wp2_with fail;refine (jL qs _ _ HQ8.out.sl HOK.out.2).mono ?_;rintro e w9 ⟨v9,rfl,hn9,rfl⟩;rw[HEND.out.1]at hn9;have HN9:=zH hn9;clear hn9
   go_wp2
   go_ret2
   exact⟨_,_,rfl,HN9.out,HN8.out,HBW.out.trans (HB8.out.mono HBW.out.size)⟩
theorem qM (x y:Nat) (va vb:Value) (w:World) (ha:ay w va x) (hb:ay w vb y) (hx:(ai ag x).length<=50000) (hy:0<y):
 Calls Tryz.prog 157 #[va,vb] w (mJ w (x / y) (x % y)):=by
 rcases Nat.lt_or_ge x y with h|h
 ·exact mU x y va vb w ha hb hx h
 ·have hl:1<=(ai ag y).length:=by
   rcases Nat.eq_zero_or_pos (ai ag y).length with h0|h0
   ·exact absurd ((cR az).1 (List.eq_nil_of_length_eq_zero h0)) (by omega)
   ·exact h0
  by_cases h1:(ai ag y).length=1
  ·exact qN x y va vb w ha hb hx hy h h1
  ·exact oV x y va vb w ha hb hx h _ rfl (by omega)
theorem ay.to {w w':World} {v:Value} {x:Nat} (h:ay w v x) (hb:Below w.heap.size w w'):ay w' v x:=Sl.to h hb
theorem vD (p q:Nat):Nat.gcd q (p % q)=Nat.gcd p q:=by
 rw[Nat.gcd_comm q (p % q),<-Nat.gcd_rec,Nat.gcd_comm]
def zN (w:World) (x:Nat) (e:Ending) (w':World):Prop:=∃ v,e=.returned v/\ay w' v x/\Below w.heap.size w w'
theorem sr (x y:Nat) (va vb:Value) (w:World) (ha:ay w va x) (hb:ay w vb y) (hx:(ai ag x).length<=50000) (hy:(ai ag y).length<=50000):
 Calls Tryz.prog 133 #[va,vb] w (zN w (Nat.gcd x y)):=by
 have HA:=zH ha;have HB:=zH hb;clear ha hb;go_enter Tryz.func133,Tryz.ntmps133
 go_wp2
 go_loopg [0,1,5,6] y (fun gk s0 s1 s5 s6 wr=>∃ p:Nat,Hid (ay wr s0 p)/\Hid (ay wr s1 gk)/\Hid (Nat.gcd p gk=Nat.gcd x y)/\Hid (Below w.heap.size w wr)/\(ai ag p).length<=50000/\(ai ag gk).length<=50000)
 case atStart=>exact⟨x,HA.out,HB.out,rfl,Below.refl _ _,hx,hy⟩
 case round=>
  obtain⟨p,HP,HQ,HG,HBe,hp,hq⟩:=hrel;by_cases h0:gk=0
  ·subst h0;obtain⟨A,c,hs1,hc,hm,hr⟩:=HQ.out;rw[aP]at hs1;subst hs1;clear hr hc
   go_wp2_with (go_at_call 49;refine (cL (ai ag p) _ _ HP.out (by omega)).mono ?_;rintro e w2 ⟨v2,rfl,hown,hbel⟩)
   go_ret;have hg:=HG.out;rw[Nat.gcd_zero_right]at hg;exact⟨_,rfl,by rw[<-hg];exact hown.sl,HBe.out.trans (hbel.mono HBe.out.size)⟩
  ·obtain⟨A,c,hs1,hc,hm,hr⟩:=HQ.out;have hl:0<(ai ag gk).length:=by
    rcases Nat.eq_zero_or_pos (ai ag gk).length with h1|h1
    ·exact absurd ((cR az).1 (List.eq_nil_of_length_eq_zero h1)) h0
    ·exact h1
   generalize hle:(ai ag gk).length=l at hs1 hl hq;subst hs1;have HLE:=zH hle;clear hle hr hc;go_wp2_with fail;refine (qM p gk _ _ _ HP.out HQ.out hp (by omega)).mono ?_;rintro e w2 ⟨v2,u2,rfl,hv2,hu2,hb2⟩;have HU2:=zH hu2;have HB2:=zH hb2;clear hv2 hu2 hb2
   go_wp2
   go_roundg (p % gk)
   case measure=>exact Nat.mod_lt _ (by omega)
   case rel=>
    refine⟨gk,HQ.out.to HB2.out,HU2.out,(vD p gk).trans HG.out,HBe.out.trans (HB2.out.mono HBe.out.size),by rw[HLE.out];exact hq,?_⟩;have:=eG (B:=ag) az (Nat.le_of_lt (Nat.mod_lt p (show 0<gk by omega)));rw[HLE.out]at this;omega
theorem tw (neg:Bool) (xs ys:List Nat) (va vb:Value) (w:World) (ha:Sl .u32 w va xs) (hb:Sl .u32 w vb ys) (hx:128<xs.length\/128<ys.length):
 Calls Tryz.prog 92 #[.agg #[.bool neg,va,vb]] w fun e w'=>e=.returned (.int .i64 3)/\Below w.heap.size w w':=by
 obtain⟨A,ca,rfl,hca,hma,hra⟩:=ha;obtain⟨A',cb,rfl,hcb,hmb,hrb⟩:=hb;unfold maxLen at hma hmb;generalize xs.length=n at*;generalize ys.length=m at*;clear hra hrb;by_cases h:128<n
 ·clear hx;go_enter Tryz.func92,Tryz.ntmps92
  go_wp2
  go_ret;exact⟨rfl,(Below.refl _ _).alloc (Nat.le_refl _) _⟩
 ·have hm:128<m:=by omega
  have hn:n<=128:=by omega
  clear hx h;go_enter Tryz.func92,Tryz.ntmps92
  go_wp2
  go_ret;exact⟨rfl,(Below.refl _ _).alloc (Nat.le_refl _) _⟩
theorem qK (neg:Bool) (xs ys:List Nat) (va vb:Value) (w:World) (ha:Sl .u32 w va xs) (hb:Sl .u32 w vb ys) (hx:xs.length<=128) (hy:ys.length<=128) (hl:bw xs=true\/bw ys=true\/ys.length=0):
 Calls Tryz.prog 92 #[.agg #[.bool neg,va,vb]] w fun e w'=>e=.returned (.int .i64 2)/\Below w.heap.size w w':=by
 have HA:=zH ha;have HB:=zH hb;obtain⟨A,ca,rfl,hca,hma,hra⟩:=ha;obtain⟨A',cb,rfl,hcb,hmb,hrb⟩:=hb;clear hra hrb;unfold maxLen at hma hmb;generalize xs.length=n at*;generalize ys.length=m at*;by_cases hl1:bw xs=true
 ·have HL:=zH hl1;clear hl hl1;go_enter Tryz.func92,Tryz.ntmps92;go_wp2_with fail;refine (aQ xs _ _ (by exact HA.out.to ((Below.refl _ _).alloc (Nat.le_refl _) _))).mono ?_;rintro e w1 ⟨rfl,rfl⟩;rw[HL.out]
  go_wp2
  go_ret;exact⟨rfl,(Below.refl _ _).alloc (Nat.le_refl _) _⟩
 ·have HL:Hid (bw xs=false):=by unfold Hid;simpa using hl1
  have hl2:bw ys=true\/m=0:=by rcases hl with h|h;exact absurd h hl1;exact h
  clear hl hl1;by_cases hl1:bw ys=true
  ·have HL2:=zH hl1;clear hl2 hl1;go_enter Tryz.func92,Tryz.ntmps92;go_wp2_with fail;refine (aQ xs _ _ (by exact HA.out.to ((Below.refl _ _).alloc (Nat.le_refl _) _))).mono ?_;rintro e w1 ⟨rfl,rfl⟩;rw[HL.out];go_wp2_with fail;refine (aQ ys _ _ (by exact HB.out.to ((Below.refl _ _).alloc (Nat.le_refl _) _))).mono ?_;rintro e w1 ⟨rfl,rfl⟩;rw[HL2.out]
   go_wp2
   go_ret;exact⟨rfl,(Below.refl _ _).alloc (Nat.le_refl _) _⟩
  ·have HL2:Hid (bw ys=false):=by unfold Hid;simpa using hl1
   obtain rfl:m=0:=by rcases hl2 with h|h;exact absurd h hl1;exact h
   clear hl2 hl1;go_enter Tryz.func92,Tryz.ntmps92;go_wp2_with fail;refine (aQ xs _ _ (by exact HA.out.to ((Below.refl _ _).alloc (Nat.le_refl _) _))).mono ?_;rintro e w1 ⟨rfl,rfl⟩;rw[HL.out];go_wp2_with fail;refine (aQ ys _ _ (by exact HB.out.to ((Below.refl _ _).alloc (Nat.le_refl _) _))).mono ?_;rintro e w1 ⟨rfl,rfl⟩;rw[HL2.out]
   go_wp2
   go_ret;exact⟨rfl,(Below.refl _ _).alloc (Nat.le_refl _) _⟩
def bR (neg:Bool) (x y:Nat):Int:=if x=0 then (if neg=false/\y=1 then 0 else 2) else if y=1\/x=1\/Nat.gcd x y=1 then 0 else 2
theorem qL (neg:Bool) (x y:Nat) (va vb:Value) (w:World) (ha:ay w va x) (hb:ay w vb y) (hx:(ai ag x).length<=128) (hy:(ai ag y).length<=128) (hy0:0<(ai ag y).length) (h0:0<(ai ag x).length↔0<x) (hx0:x=0) (hl1:bw (ai ag x)=false) (hl2:bw (ai ag y)=false):
 Calls Tryz.prog 92 #[.agg #[.bool neg,va,vb]] w fun e w'=>e=.returned (.int .i64 (bR neg x y))/\Below w.heap.size w w':=by
 have HA:=zH ha;have HB:=zH hb;obtain⟨A,ca,rfl,hca,hma,hra⟩:=ha;obtain⟨A',cb,rfl,hcb,hmb,hrb⟩:=hb;have HL:=zH hl1;have HL2:=zH hl2;have HX:=zH (And.intro hx hy);clear hra hrb hl1 hl2;unfold maxLen at hma hmb;generalize hn:(ai ag x).length=n at*;generalize hm:(ai ag y).length=m at*;have HN:=zH (And.intro hn hm);have hm1:((m:Int)==0)=false:=beq_eq_false_iff_ne.2 (by omega);clear hn hm;have HSA:∀ o:Obj,Hid (ay (w.alloc o) (.slice A n ca) x):=fun o=>HA.out.to ((Below.refl _ _).alloc (Nat.le_refl _) o);have HSB:∀ o:Obj,Hid (ay (w.alloc o) (.slice A' m cb) y):=fun o=>HB.out.to ((Below.refl _ _).alloc (Nat.le_refl _) o);clear HA HB
 ·obtain rfl:n=0:=by omega
  cases neg with
  |true=>
   have E:Hid (bR true x y=2):=by unfold Hid bR;rw[if_pos hx0,if_neg (by simp)]
   clear h0 hx0;go_enter Tryz.func92,Tryz.ntmps92;go_wp2_with fail;refine (aQ (ai ag x) _ _ (by exact (HSA _).out)).mono ?_;rintro e w1 ⟨rfl,rfl⟩;rw[HL.out];go_wp2_with fail;refine (aQ (ai ag y) _ _ (by exact (HSB _).out)).mono ?_;rintro e w1 ⟨rfl,rfl⟩;rw[HL2.out]
   go_wp2
   go_ret;rw[E.out];exact⟨rfl,(Below.refl _ _).alloc (Nat.le_refl _) _⟩
  |false=>
   have E:Hid (bR false x y=if y=1 then 0 else 2):=by unfold Hid bR;rw[if_pos hx0];simp
   clear h0 hx0;by_cases hy1:y=1
   ·have HO:=zH (eS hy1);rw[if_pos hy1]at E;clear hy1;go_enter Tryz.func92,Tryz.ntmps92;go_wp2_with fail;refine (aQ (ai ag x) _ _ (by exact (HSA _).out)).mono ?_;rintro e w1 ⟨rfl,rfl⟩;rw[HL.out];go_wp2_with fail;refine (aQ (ai ag y) _ _ (by exact (HSB _).out)).mono ?_;rintro e w1 ⟨rfl,rfl⟩;rw[HL2.out];go_wp2_with fail;refine (bu y _ _ (by exact (HSB _).out)).mono ?_;rintro e w1 ⟨rfl,rfl⟩;rw[HO.out];go_wp2_with fail;refine (bu y _ _ (by exact (HSB _).out)).mono ?_;rintro e w1 ⟨rfl,rfl⟩;rw[HO.out]
    go_wp2
    go_ret;rw[E.out];exact⟨rfl,(Below.refl _ _).alloc (Nat.le_refl _) _⟩
   ·have HO:=zH (db hy1);rw[if_neg hy1]at E;clear hy1;go_enter Tryz.func92,Tryz.ntmps92;go_wp2_with fail;refine (aQ (ai ag x) _ _ (by exact (HSA _).out)).mono ?_;rintro e w1 ⟨rfl,rfl⟩;rw[HL.out];go_wp2_with fail;refine (aQ (ai ag y) _ _ (by exact (HSB _).out)).mono ?_;rintro e w1 ⟨rfl,rfl⟩;rw[HL2.out];go_wp2_with fail;refine (bu y _ _ (by exact (HSB _).out)).mono ?_;rintro e w1 ⟨rfl,rfl⟩;rw[HO.out]
    go_wp2
    go_ret;rw[E.out];exact⟨rfl,(Below.refl _ _).alloc (Nat.le_refl _) _⟩
theorem tC (neg:Bool) (x y:Nat) (va vb:Value) (w:World) (ha:ay w va x) (hb:ay w vb y) (hx:(ai ag x).length<=128) (hy:(ai ag y).length<=128) (hy0:0<(ai ag y).length) (h0:0<(ai ag x).length↔0<x) (hx0:0<x) (hl1:bw (ai ag x)=false) (hl2:bw (ai ag y)=false):
 Calls Tryz.prog 92 #[.agg #[.bool neg,va,vb]] w fun e w'=>e=.returned (.int .i64 (bR neg x y))/\Below w.heap.size w w':=by
 have HA:=zH ha;have HB:=zH hb;obtain⟨A,ca,rfl,hca,hma,hra⟩:=ha;obtain⟨A',cb,rfl,hcb,hmb,hrb⟩:=hb;have HL:=zH hl1;have HL2:=zH hl2;have HX:=zH (And.intro hx hy);clear hra hrb hl1 hl2;unfold maxLen at hma hmb;generalize hn:(ai ag x).length=n at*;generalize hm:(ai ag y).length=m at*;have HN:=zH (And.intro hn hm);have hm1:((m:Int)==0)=false:=beq_eq_false_iff_ne.2 (by omega);clear hn hm;have HSA:∀ o:Obj,Hid (ay (w.alloc o) (.slice A n ca) x):=fun o=>HA.out.to ((Below.refl _ _).alloc (Nat.le_refl _) o);have HSB:∀ o:Obj,Hid (ay (w.alloc o) (.slice A' m cb) y):=fun o=>HB.out.to ((Below.refl _ _).alloc (Nat.le_refl _) o);clear HA HB;have hn1:((n:Int)==0)=false:=beq_eq_false_iff_ne.2 (by omega);have HX0:Hid (x≠0):=by unfold Hid;omega
 clear h0 hx0;by_cases hy1:y=1
 ·have HO:=zH (eS hy1);have E:Hid (bR neg x y=0):=by unfold Hid bR;rw[if_neg HX0.out,if_pos (.inl hy1)]
  clear hy1;go_enter Tryz.func92,Tryz.ntmps92;go_wp2_with fail;refine (aQ (ai ag x) _ _ (by exact (HSA _).out)).mono ?_;rintro e w1 ⟨rfl,rfl⟩;rw[HL.out];go_wp2_with fail;refine (aQ (ai ag y) _ _ (by exact (HSB _).out)).mono ?_;rintro e w1 ⟨rfl,rfl⟩;rw[HL2.out];go_wp2_with fail;refine (bu y _ _ (by exact (HSB _).out)).mono ?_;rintro e w1 ⟨rfl,rfl⟩;rw[HO.out]
  go_wp2
  go_ret;rw[E.out];exact⟨rfl,(Below.refl _ _).alloc (Nat.le_refl _) _⟩
 ·have HO:=zH (db hy1);by_cases hx1:x=1
  ·have HOX:=zH (eS hx1);have E:Hid (bR neg x y=0):=by unfold Hid bR;rw[if_neg HX0.out,if_pos (.inr (.inl hx1))]
   clear hy1 hx1;go_enter Tryz.func92,Tryz.ntmps92;go_wp2_with fail;refine (aQ (ai ag x) _ _ (by exact (HSA _).out)).mono ?_;rintro e w1 ⟨rfl,rfl⟩;rw[HL.out];go_wp2_with fail;refine (aQ (ai ag y) _ _ (by exact (HSB _).out)).mono ?_;rintro e w1 ⟨rfl,rfl⟩;rw[HL2.out];go_wp2_with fail;refine (bu y _ _ (by exact (HSB _).out)).mono ?_;rintro e w1 ⟨rfl,rfl⟩;rw[HO.out];go_wp2_with fail;refine (bu x _ _ (by exact (HSA _).out)).mono ?_;rintro e w1 ⟨rfl,rfl⟩;rw[HOX.out]
   go_wp2
   go_ret;rw[E.out];exact⟨rfl,(Below.refl _ _).alloc (Nat.le_refl _) _⟩
  ·have HOX:=zH (db hx1);by_cases hg:Nat.gcd x y=1
   ·have HG:=zH (eS hg);have E:Hid (bR neg x y=0):=by unfold Hid bR;rw[if_neg HX0.out,if_pos (.inr (.inr hg))]
    clear hy1 hx1 hg;go_enter Tryz.func92,Tryz.ntmps92;go_wp2_with fail;refine (aQ (ai ag x) _ _ (by exact (HSA _).out)).mono ?_;rintro e w1 ⟨rfl,rfl⟩;rw[HL.out];go_wp2_with fail;refine (aQ (ai ag y) _ _ (by exact (HSB _).out)).mono ?_;rintro e w1 ⟨rfl,rfl⟩;rw[HL2.out];go_wp2_with fail;refine (bu y _ _ (by exact (HSB _).out)).mono ?_;rintro e w1 ⟨rfl,rfl⟩;rw[HO.out];go_wp2_with fail;refine (bu x _ _ (by exact (HSA _).out)).mono ?_;rintro e w1 ⟨rfl,rfl⟩;rw[HOX.out];go_wp2_with fail;refine (sr x y _ _ _ (by exact (HSA _).out) (by exact (HSB _).out) (by rw[HN.out.1];exact Nat.le_trans HX.out.1 (by omega)) (by rw[HN.out.2];exact Nat.le_trans HX.out.2 (by omega))).mono ?_;rintro e w2 ⟨v2,rfl,hn2,hb2⟩;have H2:=zH (And.intro hn2 hb2);clear hn2 hb2;go_wp2_with fail;refine (bu (Nat.gcd x y) _ _ H2.out.1).mono ?_;rintro e w1 ⟨rfl,rfl⟩;rw[HG.out]
    go_wp2
    go_ret;rw[E.out];exact⟨rfl,((Below.refl _ _).alloc (Nat.le_refl _) _).trans (H2.out.2.mono (by simp))⟩
   ·have HG:=zH (db hg);have E:Hid (bR neg x y=2):=by unfold Hid bR;rw[if_neg HX0.out,if_neg (by rintro (h|h|h);exact hy1 h;exact hx1 h;exact hg h)]
    clear hy1 hx1 hg;go_enter Tryz.func92,Tryz.ntmps92;go_wp2_with fail;refine (aQ (ai ag x) _ _ (by exact (HSA _).out)).mono ?_;rintro e w1 ⟨rfl,rfl⟩;rw[HL.out];go_wp2_with fail;refine (aQ (ai ag y) _ _ (by exact (HSB _).out)).mono ?_;rintro e w1 ⟨rfl,rfl⟩;rw[HL2.out];go_wp2_with fail;refine (bu y _ _ (by exact (HSB _).out)).mono ?_;rintro e w1 ⟨rfl,rfl⟩;rw[HO.out];go_wp2_with fail;refine (bu x _ _ (by exact (HSA _).out)).mono ?_;rintro e w1 ⟨rfl,rfl⟩;rw[HOX.out];go_wp2_with fail;refine (sr x y _ _ _ (by exact (HSA _).out) (by exact (HSB _).out) (by rw[HN.out.1];exact Nat.le_trans HX.out.1 (by omega)) (by rw[HN.out.2];exact Nat.le_trans HX.out.2 (by omega))).mono ?_;rintro e w2 ⟨v2,rfl,hn2,hb2⟩;have H2:=zH (And.intro hn2 hb2);clear hn2 hb2;go_wp2_with fail;refine (bu (Nat.gcd x y) _ _ H2.out.1).mono ?_;rintro e w1 ⟨rfl,rfl⟩;rw[HG.out]
    go_wp2
    go_ret;rw[E.out];exact⟨rfl,((Below.refl _ _).alloc (Nat.le_refl _) _).trans (H2.out.2.mono (by simp))⟩
def fJ (neg:Bool) (xs ys:List Nat):Int:=
 if 128<xs.length\/128<ys.length then 3 else if bw xs=true\/bw ys=true\/ys.length=0 then 2 else bR neg (val ag xs) (val ag ys)
theorem top_of_last {xs:List Nat} (h:bw xs=false):kV xs:=by
 intro hl;have h1:¬(0<xs.length/\xs.getD (xs.length-1) 0=0):=of_decide_eq_false h
 apply h1
 rw[List.getLast?_eq_getElem?]at hl;constructor
 ·rcases Nat.eq_zero_or_pos xs.length with h0|h0
  ·rw[List.getElem?_eq_none (by omega)]at hl;exact absurd hl (by simp)
  ·exact h0
 ·rw[List.getD_eq_getElem?_getD,hl];rfl
theorem dK (neg:Bool) (xs ys:List Nat) (va vb:Value) (w:World) (ha:Sl .u32 w va xs) (hb:Sl .u32 w vb ys) (hox:Ok ag xs) (hoy:Ok ag ys):
 Calls Tryz.prog 92 #[.agg #[.bool neg,va,vb]] w fun e w'=>e=.returned (.int .i64 (fJ neg xs ys))/\Below w.heap.size w w':=by
 unfold fJ;by_cases h1:128<xs.length\/128<ys.length
 ·rw[if_pos h1];exact tw neg xs ys va vb w ha hb h1
 rw[if_neg h1];by_cases h2:bw xs=true\/bw ys=true\/ys.length=0
 ·rw[if_pos h2];exact qK neg xs ys va vb w ha hb (by omega) (by omega) h2
 rw[if_neg h2];have hlx:bw xs=false:=by cases h:bw xs with|false=>rfl|true=>exact absurd (.inl h) h2
 have hly:bw ys=false:=by cases h:bw ys with|false=>rfl|true=>exact absurd (.inr (.inl h)) h2
 have hl0:0<ys.length:=Nat.pos_of_ne_zero fun h=>h2 (.inr (.inr h));have ex:=eY az hox (top_of_last hlx) rfl;have ey:=eY az hoy (top_of_last hly) rfl;have h0:0<(ai ag (val ag xs)).length↔0<val ag xs:=by
  have h3:=cR (B:=ag) (n:=val ag xs) az;constructor
  ·intro h;rcases Nat.eq_zero_or_pos (val ag xs) with h4|h4
   ·rw[h3.2 h4]at h;exact absurd h (by simp)
   ·exact h4
  ·intro h;exact List.length_pos_iff.2 fun h4=>by have:=h3.1 h4;omega
 have hA:ay w va (val ag xs):=by unfold ay;rw[ex];exact ha
 have hB:ay w vb (val ag ys):=by unfold ay;rw[ey];exact hb
 rcases Nat.eq_zero_or_pos (val ag xs) with hz|hz
 ·exact qL neg _ _ va vb w hA hB (by rw[ex];omega) (by rw[ey];omega) (by rw[ey];exact hl0) h0 hz (by rw[ex];exact hlx) (by rw[ey];exact hly)
 ·exact tC neg _ _ va vb w hA hB (by rw[ex];omega) (by rw[ey];omega) (by rw[ey];exact hl0) h0 hz (by rw[ex];exact hlx) (by rw[ey];exact hly)
end Go.Proofs.YtlhojoefhannnaaGreat
namespace Go.Proofs.YtlhojoefhannnaaGreat
open Go.RowKit NumB
def af (w:World) (g:Nat) (t:TypeId) (cs:Array Value):Prop:=w.heap[g]?=some (.cells cs t (0,0))
section
variable {w w':World} {g:Nat} {t:TypeId} {cs:Array Value}
theorem af.lt (h:af w g t cs):g<w.heap.size:=by
 rcases Nat.lt_or_ge g w.heap.size with hlt|hge
 ·exact hlt
 ·unfold af at h;rw[Array.getElem?_eq_none hge]at h;cases h
theorem af.cell (h:af w g t cs) (i:Nat):w.cell? ⟨g,i,none⟩=cs[i]?:=cell_of_row w g i cs t (0,0) h
theorem af.frozen (h:af w g t cs) (i:Nat):w.frozen? ⟨g,i,none⟩=false:=by
 unfold af at h;simp[World.frozen?,h]
theorem af.s7 {a b c d e f i:Value} (h:af w g t #[a,b,c,d,e,f,i]):w.cell? ⟨g,0,none⟩=some a/\w.cell? ⟨g,1,none⟩=some b/\w.cell? ⟨g,2,none⟩=some c/\w.cell? ⟨g,3,none⟩=some d/\w.cell? ⟨g,4,none⟩=some e/\w.cell? ⟨g,5,none⟩=some f/\w.cell? ⟨g,6,none⟩=some i:=⟨h.cell 0,h.cell 1,h.cell 2,h.cell 3,h.cell 4,h.cell 5,h.cell 6⟩
theorem af.z7 (h:af w g t cs):w.frozen? ⟨g,0,none⟩=false/\w.frozen? ⟨g,1,none⟩=false/\w.frozen? ⟨g,2,none⟩=false/\w.frozen? ⟨g,3,none⟩=false/\w.frozen? ⟨g,4,none⟩=false/\w.frozen? ⟨g,5,none⟩=false/\w.frozen? ⟨g,6,none⟩=false:=⟨h.frozen 0,h.frozen 1,h.frozen 2,h.frozen 3,h.frozen 4,h.frozen 5,h.frozen 6⟩
theorem af.new (w:World) (t:TypeId) (cs:Array Value):af (w.alloc (.cells cs t)) w.heap.size t cs:=heap_alloc_new w _
theorem af.alloc (h:af w g t cs) (o:Obj):af (w.alloc o) g t cs:=(Below.heap_alloc w o g h.lt).trans h
theorem af.set_ (h:af w g t cs) (i:Nat) (u:Value):af (w.setCell ⟨g,i,none⟩ u) g t (cs.setIfInBounds i u):=by
 unfold af at h ⊢;simp[World.setCell,Array.getElem?_modify,h]
theorem af.far (h:af w g t cs) {p:Addr} (hp:g≠p.block) (u:Value):af (w.setCell p u) g t cs:=(Below.heap_setCell w p u g hp).trans h
theorem af.to (h:af w g t cs) (hb:Below w.heap.size w w'):af w' g t cs:=(hb.block g h.lt).trans h
theorem af.drew (h:af w g t cs):af w.drew g t cs:=h
end
def uO (cs:Array Value):Prop:=∀ (i:Nat) (k:IntKind) (n:Int),cs[i]?≠some (Value.int k n)
theorem Sl.boxed {k:IntKind} {w w':World} {v:Value} {xs:List Nat} {g:Nat} {t:TypeId} {cs:Array Value} (h:Sl k w v xs) (hg:af w g t cs) (hno:uO cs) (hsz:w.heap.size<=w'.heap.size) (hk:∀ p:Addr,p.block≠g->w'.cell? p=w.cell? p):Sl k w' v xs:=by
 obtain⟨A,c,e,h1,h2,h3,h4⟩:=h;refine⟨A,c,e,h1,h2,h3,fun hn=>?_⟩;obtain⟨b,o,e2,hb,hc⟩:=h4 hn;have hne:b≠g:=by
  rintro rfl;have:=hc 0 hn;rw[hg.cell]at this;exact hno _ _ _ this
 exact⟨b,o,e2,Nat.lt_of_lt_of_le hb hsz,fun i hi=>(hk _ hne).trans (hc i hi)⟩
theorem ky {neg:Bool} {A A':Option Addr} {n m c d:Nat}:uO #[.bool neg,.slice A n c,.slice A' m d]:=by
 intro i k z h;rcases i with _|_|_|i<;>simp at h
def put3 (w:World) (g:Nat) (a b c:Value):World:=((w.setCell ⟨g,0,none⟩ a).setCell ⟨g,1,none⟩ b).setCell ⟨g,2,none⟩ c
theorem mo (w:World) (g:Nat) (a b c:Value):(put3 w g a b c).heap.size=w.heap.size:=by simp[put3,World.setCell]
theorem pR (w:World) (g:Nat) (a b c:Value) (p:Addr) (h:p.block≠g):(put3 w g a b c).cell? p=w.cell? p:=by
 unfold put3;rw[World.cell?_setCell_other _ _ _ _ (by intro e;subst e;exact h rfl),World.cell?_setCell_other _ _ _ _ (by intro e;subst e;exact h rfl),World.cell?_setCell_other _ _ _ _ (by intro e;subst e;exact h rfl)]
theorem rx {w0 w:World} {B g:Nat} (h:Below B w0 w) (hg:B<=g) (a b c:Value):Below B w0 (put3 w g a b c):=((h.setCell (p:=⟨g,0,none⟩) hg a).setCell (p:=⟨g,1,none⟩) hg b).setCell (p:=⟨g,2,none⟩) hg c
theorem ay.put3 {w:World} {v:Value} {x g:Nat} {t:TypeId} {neg:Bool} {A A':Option Addr} {n m ca cb:Nat} (h:ay w v x) (hg:af w g t #[.bool neg,.slice A n ca,.slice A' m cb]) (a b c:Value):ay (put3 w g a b c) v x:=
 Sl.boxed h hg ky (Nat.le_of_eq (mo w g a b c).symm) (pR w g a b c)
def yG:Value:=.agg #[.bool false,.slice none 0 0,.slice none 0 0]
def kU (w:World) (v:Value) (neg:Bool) (x y:Nat):Prop:=∃ va vb,v=.agg #[.bool neg,va,vb]/\ay w va x/\ay w vb y
theorem kU.to {w w':World} {v:Value} {neg:Bool} {x y:Nat} (h:kU w v neg x y) (hb:Below w.heap.size w w'):kU w' v neg x y:=by
 obtain⟨va,vb,e,h1,h2⟩:=h;exact⟨va,vb,e,h1.to hb,h2.to hb⟩
theorem ay.form {w:World} {v:Value} {x:Nat} (h:ay w v x):∃ A n c,v=.slice A n c/\n=(ai ag x).length:=by
 obtain⟨A,c,e,_⟩:=h;exact⟨A,_,c,e,rfl⟩
theorem ay.len {w:World} {A:Option Addr} {n c x:Nat} (h:ay w (.slice A n c) x):n=(ai ag x).length:=by
 obtain⟨A',c',e,_⟩:=h
 injection e
theorem I (w:World) (o:Obj):Below w.heap.size w (w.alloc o):=(Below.refl _ _).alloc (Nat.le_refl _) _
theorem kU.form {w:World} {v:Value} {neg:Bool} {x y:Nat} (h:kU w v neg x y):∃ A n c A' m d,v=.agg #[.bool neg,.slice A n c,.slice A' m d]/\n=(ai ag x).length/\m=(ai ag y).length:=by
 obtain⟨va,vb,rfl,h1,h2⟩:=h;obtain⟨A,n,c,rfl,e1⟩:=h1.form;obtain⟨A',m,d,rfl,e2⟩:=h2.form;exact⟨A,n,c,A',m,d,rfl,e1,e2⟩
theorem kU.parts {w:World} {va vb:Value} {s neg:Bool} {x y:Nat} (h:kU w (.agg #[.bool s,va,vb]) neg x y):s=neg/\ay w va x/\ay w vb y:=by
 obtain⟨va',vb',e,h1,h2⟩:=h;simp only[Value.agg.injEq,Array.mk.injEq,List.cons.injEq,Value.bool.injEq,and_true]at e;obtain⟨rfl,rfl,rfl⟩:=e;exact⟨rfl,h1,h2⟩
theorem kU.put3 {w:World} {v:Value} {neg s:Bool} {x y g:Nat} {t:TypeId} {A A':Option Addr} {n m ca cb:Nat} (h:kU w v neg x y) (hg:af w g t #[.bool s,.slice A n ca,.slice A' m cb]) (a b c:Value):kU (put3 w g a b c) v neg x y:=by
 obtain⟨va,vb,rfl,h1,h2⟩:=h;exact⟨va,vb,rfl,h1.put3 hg a b c,h2.put3 hg a b c⟩
def yO (w:World) (g:Nat) (na nb:Bool) (A1 A2 A3 A4:Value):Prop:=
 w.cell? ⟨g,0,none⟩=some (.bool na)/\w.cell? ⟨g,1,none⟩=some A1/\w.cell? ⟨g,2,none⟩=some A2/\w.cell? ⟨g+1,0,none⟩=some (.bool nb)/\w.cell? ⟨g+1,1,none⟩=some A3/\w.cell? ⟨g+1,2,none⟩=some A4/\g+2<w.heap.size
theorem yO.to {w w':World} {g:Nat} {na nb:Bool} {A1 A2 A3 A4:Value} (h:yO w g na nb A1 A2 A3 A4) (hb:Below w.heap.size w w'):yO w' g na nb A1 A2 A3 A4:=by
 obtain⟨h0,h1,h2,h3,h4,h5,h6⟩:=h;exact⟨(hb.cell (p:=⟨g,0,none⟩) (by show g<_;omega)).trans h0,(hb.cell (p:=⟨g,1,none⟩) (by show g<_;omega)).trans h1,(hb.cell (p:=⟨g,2,none⟩) (by show g<_;omega)).trans h2,(hb.cell (p:=⟨g+1,0,none⟩) (by show g+1<_;omega)).trans h3,(hb.cell (p:=⟨g+1,1,none⟩) (by show g+1<_;omega)).trans h4,(hb.cell (p:=⟨g+1,2,none⟩) (by show g+1<_;omega)).trans h5,Nat.lt_of_lt_of_le h6 hb.size⟩
theorem oJ {neg:Bool} {xs ys:List Nat} (ox:Ok ag xs) (oy:Ok ag ys) (h:fJ neg xs ys=0):
 ai ag (val ag xs)=xs/\ai ag (val ag ys)=ys/\xs.length<=128/\ys.length<=128/\0<val ag ys/\Nat.gcd (val ag xs) (val ag ys)=1/\(val ag xs=0->neg=false):=by
 unfold fJ at h;by_cases h1:128<xs.length\/128<ys.length
 ·rw[if_pos h1]at h;omega
 rw[if_neg h1]at h;by_cases h2:bw xs=true\/bw ys=true\/ys.length=0
 ·rw[if_pos h2]at h;omega
 rw[if_neg h2]at h;have hlx:bw xs=false:=by cases h:bw xs with|false=>rfl|true=>exact absurd (.inl h) h2
 have hly:bw ys=false:=by cases h:bw ys with|false=>rfl|true=>exact absurd (.inr (.inl h)) h2
 have hy0:ys≠[]:=by rintro rfl;exact h2 (.inr (.inr rfl))
 have hvy:=jM (B:=ag) (by decide) (top_of_last hly) hy0;refine⟨j8 az ox (top_of_last hlx),j8 az oy (top_of_last hly),by omega,by omega,hvy,?_,?_⟩
 ·unfold bR at h;by_cases hx:val ag xs=0
  ·rw[if_pos hx]at h;by_cases h3:neg=false/\val ag ys=1
   ·rw[hx,h3.2];rfl
   ·rw[if_neg h3]at h;omega
  ·rw[if_neg hx]at h;by_cases h3:val ag ys=1\/val ag xs=1\/Nat.gcd (val ag xs) (val ag ys)=1
   ·rcases h3 with h3|h3|h3
    ·rw[h3,Nat.gcd_one_right]
    ·rw[h3,Nat.gcd_one_left]
    ·exact h3
   ·rw[if_neg h3]at h;omega
 ·intro hx;unfold bR at h;rw[if_pos hx]at h;by_cases h3:neg=false/\val ag ys=1
  ·exact h3.1
  ·rw[if_neg h3]at h;omega
theorem dJ (neg:Bool) (xs ys:List Nat):0<=fJ neg xs ys/\fJ neg xs ys<=3:=by
 unfold fJ bR
 split
 ·omega
 ·split
  ·omega
  ·split
   ·split<;>omega
   ·split<;>omega
def Aq (w:World) (na nb:Bool) (A1 A2 A3 A4:Value) (xa ya xb yb:List Nat):Prop:=Sl .u32 w A1 xa/\Sl .u32 w A2 ya/\Sl .u32 w A3 xb/\Sl .u32 w A4 yb
theorem Aq.to {w w':World} {na nb:Bool} {A1 A2 A3 A4:Value} {xa ya xb yb:List Nat} (h:Aq w na nb A1 A2 A3 A4 xa ya xb yb) (hb:Below w.heap.size w w'):Aq w' na nb A1 A2 A3 A4 xa ya xb yb:=⟨h.1.to hb,h.2.1.to hb,h.2.2.1.to hb,h.2.2.2.to hb⟩
end Go.Proofs.YtlhojoefhannnaaGreat
namespace Go.Proofs.YtlhojoefhannnaaGreat.RatB
def sg (neg:Bool) (x:Nat):Int:=if neg then -(x:Int) else (x:Int)
theorem iW (neg:Bool) (x:Nat):(sg neg x).natAbs=x:=by unfold sg;cases neg<;>simp
def Canon (neg:Bool) (x y:Nat):Prop:=0<y/\Nat.gcd x y=1/\(x=0->neg=false)
def q (neg:Bool) (x y:Nat):Rat:=mkRat (sg neg x) y
theorem q_num {neg:Bool} {x y:Nat} (h:Canon neg x y):(q neg x y).num=sg neg x/\(q neg x y).den=y:=by
 have hc:(sg neg x).natAbs.Coprime y:=by rw[iW];exact h.2.1
 have e:=Rat.mk_eq_mkRat (sg neg x) y (Nat.pos_iff_ne_zero.1 h.1) hc;unfold q;rw[<-e];exact⟨rfl,rfl⟩
theorem q_inj {n1 n2:Bool} {x1 x2 y1 y2:Nat} (h1:Canon n1 x1 y1) (h2:Canon n2 x2 y2) (h:q n1 x1 y1=q n2 x2 y2):n1=n2/\x1=x2/\y1=y2:=by
 have a:=q_num h1;have b:=q_num h2;rw[h]at a;have e1:sg n1 x1=sg n2 x2:=a.1.symm.trans b.1;have e2:y1=y2:=a.2.symm.trans b.2;have e3:x1=x2:=by rw[<-iW n1 x1,e1,iW]
 refine⟨?_,e3,e2⟩;subst e3;rcases Nat.eq_zero_or_pos x1 with h0|h0
 ·rw[h1.2.2 h0,h2.2.2 h0]
 ·cases n1<;>cases n2<;>simp[sg]at e1<;>first|rfl|omega
end Go.Proofs.YtlhojoefhannnaaGreat.RatB
namespace Go.Proofs.YtlhojoefhannnaaGreat
open Go.RowKit NumB
structure LN where
 neg:Bool
 num:List Nat
 den:List Nat
def Ak:LN:=⟨false,[],[]⟩
def LN.ok (a:LN):Prop:=Ok ag a.num/\Ok ag a.den
def LN.err (a:LN):Int:=fJ a.neg a.num a.den
def LN.x (a:LN):Nat:=val ag a.num
def LN.y (a:LN):Nat:=val ag a.den
def GV (w:World) (v:Value) (a:LN):Prop:=∃ A B,v=.agg #[.bool a.neg,A,B]/\Sl .u32 w A a.num/\Sl .u32 w B a.den/\a.ok
theorem GV.to {w w':World} {v:Value} {a:LN} (h:GV w v a) (hb:Below w.heap.size w w'):GV w' v a:=by
 obtain⟨A,B,e,h1,h2,h3⟩:=h;exact⟨A,B,e,h1.to hb,h2.to hb,h3⟩
theorem GV.form {w:World} {v:Value} {a:LN} (h:GV w v a):∃ A n c B m d,v=.agg #[.bool a.neg,.slice A n c,.slice B m d]/\n=a.num.length/\m=a.den.length:=by
 obtain⟨A,B,rfl,⟨A1,c1,rfl,_⟩,⟨B1,d1,rfl,_⟩,_⟩:=h;exact⟨_,_,_,_,_,_,rfl,rfl,rfl⟩
theorem GV.parts {w:World} {s:Bool} {A B:Value} {a:LN} (h:GV w (.agg #[.bool s,A,B]) a):s=a.neg/\Sl .u32 w A a.num/\Sl .u32 w B a.den/\a.ok:=by
 obtain⟨A',B',e,h1,h2,h3⟩:=h;simp only[Value.agg.injEq,Array.mk.injEq,List.cons.injEq,Value.bool.injEq,and_true]at e;obtain⟨rfl,rfl,rfl⟩:=e;exact⟨rfl,h1,h2,h3⟩
theorem GV.ok {w:World} {v:Value} {a:LN} (h:GV w v a):a.ok:=by obtain⟨_,_,_,_,_,h⟩:=h;exact h
theorem GV.zero (w:World):GV w yG Ak:=⟨_,_,rfl,(aK.nil_ (B:=0) (T:=0) w).sl,(aK.nil_ (B:=0) (T:=0) w).sl,Ok.nil,Ok.nil⟩
theorem LN.good {a:LN} (ho:a.ok) (h:a.err=0):ai ag a.x=a.num/\ai ag a.y=a.den/\a.num.length<=128/\a.den.length<=128/\RatB.Canon a.neg a.x a.y:=by
 obtain⟨h1,h2,h3,h4,h5,h6,h7⟩:=oJ ho.1 ho.2 h;exact⟨h1,h2,h3,h4,h5,h6,h7⟩
end Go.Proofs.YtlhojoefhannnaaGreat

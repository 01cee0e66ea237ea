/- nat.Shl: a shift to the left. Conditions: at most 100000 limbs and bits. And 2 more texts. -/
import Derived.Test.YtlhojoefhannnaaGreatJt2
set_option linter.unusedVariables false
set_option linter.unusedSimpArgs false
set_option maxRecDepth 100000
set_option maxHeartbeats 51200000
namespace Go.Proofs.YtlhojoefhannnaaGreat
open Go.RowKit NumB
theorem pH (p s:Nat) (hs:s<32):p*2 ^ s % 4294967296=(p % 2 ^ (32-s))*2 ^ s:=by
 have:(4294967296:Nat)=2 ^ (32-s)*2 ^ s:=by rw[<-Nat.pow_add,Nat.sub_add_cancel (by omega)]
 rw[this,Nat.mul_mod_mul_right]
theorem mg (p s h:Nat) (hs:s<32) (hh:h<2 ^ s):h+p*2 ^ s % 4294967296<4294967296:=by
 rw[pH p s hs];have h1:p % 2 ^ (32-s)+1<=2 ^ (32-s):=Nat.mod_lt _ (Nat.pow_pos (by omega));have h2:(p % 2 ^ (32-s)+1)*2 ^ s<=2 ^ (32-s)*2 ^ s:=Nat.mul_le_mul_right _ h1;rw[<-Nat.pow_add,Nat.sub_add_cancel (by omega),Nat.add_mul,Nat.one_mul]at h2;omega
theorem zb (p s h:Nat) (hs:s<32) (hh:h<2 ^ s):h ||| p*2 ^ s % 4294967296=h+p*2 ^ s % 4294967296:=by
 rw[pH p s hs,Nat.or_comm,<-Nat.shiftLeft_eq,<-Nat.shiftLeft_add_eq_or_of_lt hh,Nat.add_comm]
theorem zm (p s:Nat) (hp:p<4294967296) (hs:s<32):p*2 ^ s<9223372036854775808:=by
 have h1:(2:Nat) ^ s<=2 ^ 31:=Nat.pow_le_pow_right (by omega) (by omega);have h2:p*2 ^ s<=4294967295*2 ^ 31:=Nat.mul_le_mul (by omega) h1;omega
theorem vG (p s:Nat) (hp:p<4294967296):p*2 ^ s / 4294967296<2 ^ s:=by
 rw[Nat.div_lt_iff_lt_mul (by omega),Nat.mul_comm];exact Nat.mul_lt_mul_of_pos_left hp (Nat.pow_pos (by omega))
theorem xY {V P S K Va Wj p h lo hi B:Nat} (hP:P=Wj*K) (hy:p*S=lo+B*hi) (hv:V+P*h=S*K*Va):
 V+P*(h+lo)+P*B*hi=S*K*(Va+Wj*p):=by
 have e:P*lo+P*B*hi=S*K*(Wj*p):=by
  rw[Nat.mul_assoc,<-Nat.mul_add,<-hy,hP];simp only[Nat.mul_comm,Nat.mul_left_comm]
 rw[Nat.mul_add,Nat.mul_add (S*K)];omega
theorem pQ (s:Nat):((2 ^ s:Nat):Int)=2 ^ s:=Int.natCast_pow 2 s
theorem qe (p s:Nat) (hp:p<4294967296) (hs:s<32):IntKind.u64.wrap ((p:Int)*2 ^ s)=((p*2 ^ s:Nat):Int):=by
 have h:=zm p s hp hs;rw[<-pQ,<-Int.natCast_mul];generalize p*2 ^ s=y at*;rw[IntKind.wrap_u64];omega
theorem vR (a b:Nat) (ha:a<4294967296) (hb:b<4294967296):bits .or .u32 (a:Int) (b:Int)=((a ||| b:Nat):Int):=by
 have h:=u32_or (a:Int) (b:Int) (by omega) (by omega) (by omega) (by omega);rw[Int.toNat_natCast,Int.toNat_natCast]at h;exact h
theorem yf (p s h:Nat) (hp:p<4294967296) (hs:s<32) (hh:h<2 ^ s):
 bits .or .u32 (h:Int) (IntKind.u64.wrap ((p:Int)*2 ^ s) % 4294967296)=((h+p*2 ^ s % 4294967296:Nat):Int):=by
 have hb:h<4294967296:=by have:=mg p s h hs hh;omega
 rw[qe p s hp hs,(ek _).1,vR _ _ hb (Nat.mod_lt _ (by omega)),zb p s h hs hh]
theorem wh (p s:Nat) (hp:p<4294967296) (hs:s<32):
 bits .or .u32 0 (IntKind.u64.wrap ((p:Int)*2 ^ s) / 4294967296 % 4294967296)=((p*2 ^ s / 4294967296:Nat):Int):=by
 have h:=vG p s hp;have h1:(2:Nat) ^ s<=2 ^ 31:=Nat.pow_le_pow_right (by omega) (by omega);have hlt:p*2 ^ s / 4294967296<4294967296:=by omega
 rw[qe p s hp hs,(ek _).2,(ek _).1,Nat.mod_eq_of_lt hlt];have h2:=vR 0 _ (by omega) hlt;rw[Nat.zero_or]at h2;exact h2
theorem wj {xs out:List Nat} {j k s h p:Nat} (hj:j+k+1<out.length) (hs:s<32) (hp:p<4294967296) (hx:xs.getD j 0=p)
 (hv:val ag (out.take (j+k))+ag ^ (j+k)*h=2 ^ s*ag ^ k*val ag (xs.take j)):
 val ag ((((out.set (j+k) (h+p*2 ^ s % 4294967296)).set (j+k+1) (p*2 ^ s / 4294967296)).take (j+1+k)))+ag ^ (j+1+k)*(p*2 ^ s / 4294967296)=2 ^ s*ag ^ k*val ag (xs.take (j+1)):=by
 rw[show j+1+k=j+k+1 from by omega,bZ _ _ _ _ (Nat.le_refl _),ax,ax,bZ _ _ _ _ (Nat.le_refl _),aW _ _ _ (by omega),hx,Nat.pow_succ];exact xY (Nat.pow_add _ _ _) (by rw[show ag=4294967296 from rfl];omega) hv
theorem xZ {xs out:List Nat} {l k s h x n:Nat} (hl:xs.length=l) (ho:out.length=l+k+1) (hx:val ag xs=x) (hn:n=32*k+s) (hh:out.getD (l+k) 0=h)
 (hv:val ag (out.take (l+k))+ag ^ (l+k)*h=2 ^ s*ag ^ k*val ag (xs.take l)):val ag out=x*2 ^ n:=by
 have h1:=ax ag out (l+k);rw[aX ag out (by omega),hh,hv,aX ag xs (by omega),hx]at h1;rw[h1,hn,Nat.pow_add,Nat.pow_mul,show (2:Nat) ^ 32=ag from rfl,Nat.mul_comm x,Nat.mul_comm (ag ^ k)]
theorem sP (x n:Nat) (va:Value) (w:World) (ha:ay w va x) (hl:(ai ag x).length<=100000) (hn:n<=100000):
 Calls Tryz.prog 167 #[va,.int .i64 (n:Int)] w fun e w'=>∃ v,e=.returned v/\ay w' v (x*2 ^ n)/\Below w.heap.size w w':=by
 obtain⟨A,c,rfl,hc,hm,hr⟩:=ha;unfold maxLen at hm;obtain⟨k,s,hk,hs,hs32,HN⟩:∃ k s:Nat,(n:Int) / 32=(k:Int)/\(n:Int) % 32=(s:Int)/\s<32/\Hid (n=32*k+s):=⟨n / 32,n % 32,by omega,by omega,by omega,by unfold Hid;omega⟩;have hkb:k<=100000:=by have:=HN.out;omega
 have HX:=zH (aR az x);have HO:=zH (bz az x);generalize ai ag x=xs at*;generalize hxl:xs.length=l at*;have HL:=zH hxl;have HR:=zH hr;clear hxl hr;by_cases h0:l=0
 ·subst h0;have hb0:(((0:Nat):Int)==0)=true:=rfl;have HX0:Hid (x=0):=by
   have h1:=HX.out;rw[List.eq_nil_of_length_eq_zero HL.out]at h1;exact h1.symm
  clear hk hs;go_enter Tryz.func167,Tryz.ntmps167
  go_wp2
  go_ret;refine⟨_,rfl,?_,Below.refl _ _⟩;rw[HX0.out,Nat.zero_mul];unfold ay;rw[aP];exact (aK.nil_ (B:=0) (T:=0) w).sl
 have hb0:((l:Int)==0)=false:=beq_eq_false_iff_ne.2 (by omega);obtain⟨i0,hi0,hz0,hz1,hz2⟩:=info_parts fS;have HI:=zH hi0;have HZ0:=zH hz0;have HZ1:=zH hz1;have HZ2:=zH hz2;clear hi0 hz0 hz1 hz2;go_enter Tryz.func167,Tryz.ntmps167
 go_wp2_with (at_make;refine wpList_make_full _ rfl _ _ 22 rfl w.heap.size 82 i0 (.int .u32 0) 1 Tryz.underlying22 HI.out HZ0.out HZ1.out .i64 .i64 _ _ (l+k+1) rfl rfl (by omega) (by omega) (by rw[HZ2.out];omega) (by unfold maxLen;omega) (Nat.le_refl _) ?_;intro w1 hown1 hg1)
 have HOW:=zH (bT.made hown1);have HB:=zH ((Below.refl w.heap.size w).grown hg1 (Nat.le_refl _) (by simp));clear hown1 hg1
 go_loopg [21] l (fun g i wr=>∃ (j h:Nat) (out:List Nat),g+j=l/\i=.int .i64 (j:Int)/\h<2 ^ s/\Hid (out.getD (j+k) 0=h)/\Hid (bT .u32 82 wr w.heap.size w.heap.size (l+k+1) (l+k+1) out)/\Hid (Below w.heap.size w wr)/\Hid (val ag (out.take (j+k))+ag ^ (j+k)*h=2 ^ s*ag ^ k*val ag (xs.take j))/\Hid (Ok ag out)/\Hid (∀ q,j+k<q->out.getD q 0=0))
 case atStart=>
  refine⟨0,0,List.replicate (l+k+1) 0,by omega,rfl,Nat.pow_pos (by omega),?_,HOW.out,HB.out,?_,cf (by decide),?_⟩
  ·exact fQ _ _
  ·show _=_;rw[List.take_replicate,eJ];simp
  ·exact fun q _=>fQ _ _
 case round=>
  obtain⟨j,h,out,hg,rfl,hh,HH,HOw,HBw,HV,HOo,HQ⟩:=hrel;by_cases hj:j<l
  ·obtain⟨b,o,p,rfl,hb,hpe,hcell⟩:=(HR.out.below HBw.out).at_ (i:=j) (by omega);have hp:p<4294967296:=by rw[<-hpe];exact HO.out.getD (by decide) _
   have HP:=zH hpe;clear hpe;have hy:=HOw.out.cell (i:=j+k) (by omega);rw[HH.out]at hy;have hy2:=HOw.out.cell (i:=j+k+1) (by omega);rw[HQ.out _ (by omega)]at hy2;have hf:=HOw.out.frozen (j+k);have hf2:=HOw.out.frozen (j+k+1)
   go_wp2
   go_roundg (gk-1)
   case measure=>omega
   case rel=>
    rw[yf p s h hp hs32 hh,wh p s hp hs32];have hlen:out.length=l+k+1:=HOw.out.1;refine⟨j+1,p*2 ^ s / 4294967296,_,by omega,by go_num,vG p s hp,?_,(HOw.out.stored _ _).stored _ _,(HBw.out.setCell (Nat.le_refl _) _).setCell (Nat.le_refl _) _,wj (by omega) hs32 hp HP.out HV.out,?_,?_⟩
    ·show _=_;rw[show j+1+k=j+k+1 from by omega,aW _ _ _ (by simp;omega)]
    ·have h1:=vG p s hp;have h2:(2:Nat) ^ s<=2 ^ 31:=Nat.pow_le_pow_right (by omega) (by omega);exact (HOo.out.set (mg p s h hs32 hh)).set (by show _<4294967296;omega)
    ·intro q hq;rw[NumB.getD_set_ne _ _ _ _ (by omega),NumB.getD_set_ne _ _ _ _ (by omega)];exact HQ.out q (by omega)
  ·obtain rfl:j=l:=by omega
   go_wp2_with (go_at_call 170;refine (go out _ (j+k+1) (j+k+1) _ _ HOw.out.rd HOo.out (Nat.le_refl _) (by unfold maxLen;omega)).mono ?_;rintro e w' ⟨m,rfl,hm',ht,rfl⟩)
   go_ret;rw[xZ HL.out HOw.out.1 HX.out HN.out HH.out HV.out]at ht;exact⟨_,rfl,Sl.of_rd HOw.out.rd hm' (Nat.le_refl _) (by unfold maxLen;omega) ht,HBw.out⟩
theorem uu (y0 y1 Z s:Nat) (hs:s<32):((y0+4294967296*y1) / 2 ^ s) % 4294967296=((y0+4294967296*(y1+4294967296*Z)) / 2 ^ s) % 4294967296:=by
 have e:(4294967296:Nat)=2 ^ s*2 ^ (32-s):=by rw[<-Nat.pow_add,Nat.add_sub_cancel' (by omega)]
 have e2:y0+4294967296*(y1+4294967296*Z)=(y0+4294967296*y1)+2 ^ s*(2 ^ (32-s)*Z*4294967296):=by
  rw[Nat.mul_add,<-Nat.add_assoc]
  congr 1
  rw[<-Nat.mul_assoc (2 ^ s),<-Nat.mul_assoc (2 ^ s),<-e,Nat.mul_comm 4294967296 (4294967296*Z)]
 rw[e2,Nat.add_mul_div_left _ _ (Nat.pow_pos (by omega)),Nat.add_mul_mod_self_right]
theorem wk (V P Y D S W y Y':Nat) (hW:0<W) (hY:Y=y+W*Y') (hy:y<W) (hv:V+P*(Y / S)=D):(V+P*(Y / S % W))+(P*W)*(Y' / S)=D:=by
 have e:Y' / S=Y / S / W:=by
  rw[Nat.div_div_eq_div_mul,Nat.mul_comm S W,<-Nat.div_div_eq_div_mul,hY,Nat.add_mul_div_left _ _ hW,Nat.div_eq_of_lt hy,Nat.zero_add]
 rw[e,<-hv,Nat.mul_assoc,Nat.add_assoc,<-Nat.mul_add,Nat.mod_add_div]
theorem tL (x T Wk a r s W:Nat) (hT:T<Wk) (hs:∃ q,W=2 ^ s*q) (hx:x=T+Wk*(a+W*r)):x % (Wk*2 ^ s)=0↔T=0/\a % 2 ^ s=0:=by
 have h1:x % Wk=T:=by rw[hx,Nat.add_mul_mod_self_left,Nat.mod_eq_of_lt hT]
 have h2:x / Wk=a+W*r:=by rw[hx,Nat.add_mul_div_left _ _ (by omega),Nat.div_eq_of_lt hT,Nat.zero_add]
 obtain⟨q,rfl⟩:=hs;have h3:(a+2 ^ s*q*r) % 2 ^ s=a % 2 ^ s:=by rw[Nat.mul_assoc,Nat.add_mul_mod_self_left]
 rw[Nat.mod_mul,h1,h2,h3];constructor
 ·intro h;have h4:T=0:=by omega
  refine⟨h4,?_⟩;have h5:Wk*(a % 2 ^ s)=0:=by omega
  rcases Nat.mul_eq_zero.1 h5 with h6|h6
  ·omega
  ·exact h6
 ·rintro⟨h4,h5⟩;rw[h4,h5];simp
theorem wR (a s:Nat):a &&& (2 ^ s-1)=a % 2 ^ s:=Nat.and_two_pow_sub_one_eq_mod a s
def fO (x n:Nat):Bool:=decide (x % 2 ^ n=0)
theorem jL (xs:List Nat) (v:Value) (w:World) (h:Sl .u32 w v xs) (ho:Ok ag xs):
 Calls Tryz.prog 170 #[v] w fun e w'=>∃ v',e=.returned v'/\ay w v' (val ag xs)/\w=w':=by
 obtain⟨A,c,rfl,hc,hm,hr⟩:=h;refine (go xs A _ c w _ hr ho hc hm).mono ?_;rintro e w' ⟨m,rfl,hm',ht,rfl⟩;exact⟨_,rfl,Sl.of_rd hr hm' hc hm ht,rfl⟩
theorem lQ {x k s p n l:Nat} {xs:List Nat} (hx:val ag xs=x) (ho:Ok ag xs) (hl:xs.length=l) (hk:k<l) (hs:s<32) (hp:xs.getD k 0=p) (hn:n=32*k+s):
 fO x n=(decide (val ag (xs.take k)=0)&&decide (p % 2 ^ s=0)):=by
 have h:=tL x (val ag (xs.take k)) (ag ^ k) p (val ag (xs.drop (k+1))) s ag (bI ho (by omega)) ⟨2 ^ (32-s),by rw[<-Nat.pow_add,Nat.add_sub_cancel' (by omega)];rfl⟩ (by rw[<-hx,bk ag xs k,ap ag xs k,hp]);have e:ag ^ k*2 ^ s=2 ^ n:=by rw[hn,Nat.pow_add,Nat.pow_mul];rfl
 rw[e]at h;unfold fO;rw[<-Bool.decide_and];exact decide_eq_decide.2 h
theorem qg (p s:Nat) (hp:p<4294967296) (hs:s<32):bits .and .u32 (p:Int) (2 ^ s-1)=((p % 2 ^ s:Nat):Int):=by
 have h1:(1:Nat)<=2 ^ s:=Nat.one_le_two_pow;have h2:(2:Nat) ^ s<=2 ^ 31:=Nat.pow_le_pow_right (by omega) (by omega);have e:((2:Int) ^ s-1)=((2 ^ s-1:Nat):Int):=by rw[<-pQ];omega
 rw[e];have h:=u32_and (p:Int) ((2 ^ s-1:Nat):Int) (by omega) (by omega) (by omega) (by omega);rw[Int.toNat_natCast,Int.toNat_natCast,wR]at h;exact h
theorem qf (p q s:Nat):((q:Int)*4294967296+p) / 2 ^ s % 4294967296=(((p+4294967296*q) / 2 ^ s % 4294967296:Nat):Int):=by
 have e:(q:Int)*4294967296+p=((p+4294967296*q:Nat):Int):=by omega
 rw[e,<-pQ,<-Int.natCast_ediv];generalize (p+4294967296*q) / 2 ^ s=z;exact (ek z).1
theorem gQ {xs out:List Nat} {j k s p q D:Nat} (hj:j<out.length) (ho:Ok ag xs) (hs:s<32) (hp:xs.getD (j+k) 0=p) (hq:xs.getD (j+k+1) 0=q)
 (hv:val ag (out.take j)+ag ^ j*(val ag (xs.drop (k+j)) / 2 ^ s)=D):
 val ag ((out.set j ((p+4294967296*q) / 2 ^ s % 4294967296)).take (j+1))+ag ^ (j+1)*(val ag (xs.drop (k+(j+1))) / 2 ^ s)=D:=by
 have e1:=ap ag xs (j+k);have e2:=ap ag xs (j+k+1);rw[hp]at e1;rw[hq]at e2;have hd:=uu p q (val ag (xs.drop (j+k+1+1))) s hs;have hW:ag=4294967296:=rfl;rw[<-hW]at hd ⊢;rw[<-e2,<-e1]at hd;rw[show k+j=j+k from by omega]at hv;rw[ax,bZ _ _ _ _ (Nat.le_refl _),aW _ _ _ hj,hd,Nat.pow_succ,show k+(j+1)=j+k+1 from by omega];exact wk _ _ _ _ _ _ p _ (by decide) e1 (by rw[<-hp];exact ho.getD (by decide) _) hv
theorem yi {xs out:List Nat} {l k s x n:Nat} (hl:xs.length=l) (ho:Ok ag xs) (hk:k<l) (hol:out.length=l-k) (hx:val ag xs=x) (hn:n=32*k+s)
 (hv:val ag (out.take (l-k))+ag ^ (l-k)*(val ag (xs.drop (k+(l-k))) / 2 ^ s)=val ag (xs.drop k) / 2 ^ s):val ag out=x / 2 ^ n:=by
 rw[aX ag out (by omega),List.drop_eq_nil_of_le (by omega)]at hv;rw[val_nil,Nat.zero_div,Nat.mul_zero,Nat.add_zero]at hv;have e:ag ^ k*2 ^ s=2 ^ n:=by rw[hn,Nat.pow_add,Nat.pow_mul];rfl
 rw[hv,<-e,<-Nat.div_div_eq_div_mul,<-hx,bk ag xs k,Nat.add_mul_div_left _ _ (Nat.pow_pos (by decide)),Nat.div_eq_of_lt (bI ho (by omega)),Nat.zero_add]
theorem xP (s:Nat) (hs:s<32):IntKind.u32.wrap ((2:Int) ^ s)=2 ^ s:=by
 have h1:(1:Nat)<=2 ^ s:=Nat.one_le_two_pow;have h2:(2:Nat) ^ s<=2 ^ 31:=Nat.pow_le_pow_right (by omega) (by omega);rw[<-pQ,IntKind.wrap_u32];omega
theorem nu (s:Nat) (hs:s<32):IntKind.u32.wrap ((2:Int) ^ s-1)=2 ^ s-1:=by
 have h1:(1:Nat)<=2 ^ s:=Nat.one_le_two_pow;have h2:(2:Nat) ^ s<=2 ^ 31:=Nat.pow_le_pow_right (by omega) (by omega);rw[<-pQ,IntKind.wrap_u32];omega
theorem yh (x n:Nat) (va:Value) (w:World) (ha:ay w va x) (hl:(ai ag x).length<=100000) (hn:n<=100000):
 Calls Tryz.prog 169 #[va,.int .i64 (n:Int)] w fun e w'=>∃ v,e=.returned (.tuple #[v,.bool (fO x n)])/\ay w' v (x / 2 ^ n)/\Below w.heap.size w w':=by
 obtain⟨A,c,rfl,hc,hm,hr⟩:=ha;unfold maxLen at hm;obtain⟨k,s,hk,hs,hs32,HN⟩:∃ k s:Nat,(n:Int) / 32=(k:Int)/\(n:Int) % 32=(s:Int)/\s<32/\Hid (n=32*k+s):=⟨n / 32,n % 32,by omega,by omega,by omega,by unfold Hid;omega⟩;have hkb:k<=100000:=by have:=HN.out;omega
 have HXZ:Hid ((ai ag x).length=0↔x=0):=by
  rw[List.length_eq_zero_iff];exact cR az
 have HX:=zH (aR az x);have HO:=zH (bz az x);generalize ai ag x=xs at*;generalize hxl:xs.length=l at*;have HL:=zH hxl;have HR:=zH hr;clear hxl hr;by_cases hkl:l<=k
 ·have hlt:x<2 ^ n:=by
   have h1:=gp HO.out;rw[HX.out,HL.out]at h1;have h2:ag ^ l<=2 ^ n:=by
    rw[HN.out,show ag=2 ^ 32 from rfl,<-Nat.pow_mul];exact Nat.pow_le_pow_right (by omega) (by omega)
   omega
  have HD:Hid (x / 2 ^ n=0):=Nat.div_eq_of_lt hlt;by_cases h0:l=0
  ·subst h0;have HE:Hid (fO x n=true):=by
    unfold fO;rw[Nat.mod_eq_of_lt hlt];exact decide_eq_true (HXZ.out.1 rfl)
   clear hlt hs;have hb0:(((0:Nat):Int)==0)=true:=rfl;go_enter Tryz.func169,Tryz.ntmps169
   go_wp2
   go_ret2
   rw[HE.out,HD.out];exact⟨_,rfl,by unfold ay;rw[aP];exact (aK.nil_ (B:=0) (T:=0) w).sl,Below.refl _ _⟩
  ·have HE:Hid (fO x n=false):=by
    unfold fO;rw[Nat.mod_eq_of_lt hlt];exact decide_eq_false (fun h=>h0 (HXZ.out.2 h))
   clear hlt hs;have hb0:((l:Int)==0)=false:=beq_eq_false_iff_ne.2 (by omega);go_enter Tryz.func169,Tryz.ntmps169
   go_wp2
   go_ret2
   rw[HE.out,HD.out];exact⟨_,rfl,by unfold ay;rw[aP];exact (aK.nil_ (B:=0) (T:=0) w).sl,Below.refl _ _⟩
 ·obtain⟨b,o,p,rfl,hb,hpe,hcell⟩:=HR.out.at_ (i:=k) (by omega);have hp:p<4294967296:=by rw[<-hpe];exact HO.out.getD (by decide) _
  have HP:=zH hpe;clear hpe;have hk0:(0:Int)<=(k:Int):=by omega
  have hkc:(k:Int)<=(c:Int):=by omega
  have HQ1:Hid ((ai ag (val ag (xs.take k))).length=0↔val ag (xs.take k)=0):=by
   constructor
   ·intro e;exact (cR az).1 (List.eq_nil_of_length_eq_zero e)
   ·intro e;rw[e,aP];rfl
  have HTK:Hid (Sl .u32 w (.slice (some ⟨b,o,none⟩) k c) (xs.take k)):=Sl.of_rd HR.out (by omega) hc (by unfold maxLen;omega) rfl;go_enter Tryz.func169,Tryz.ntmps169
  go_upto_region 4 with fail
  go_cut [5] (fun s5 wx=>s5=.bool (fO x n)/\Hid (Below w.heap.size w wx))
  case first=>
   by_cases hT:val ag (xs.take k)=0
   ·have hq:(((ai ag (val ag (xs.take k))).length:Int)==0)=true:=by
     apply beq_iff_eq.2
     have:=HQ1.out.2 hT;omega
    have HT:=zH hT;clear hT;have hs':(n:Int).tmod 32=(s:Int):=by rw[Int.tmod_eq_emod_of_nonneg (by omega)];exact hs
    have hkl':(k:Int)<(l:Int):=by omega
    go_region_held3 (fun w'=>w'.cell? ⟨b,o+k,none⟩=some (.int .u32 (p:Int))) (first|exact hcell|exact hc1)
     (first
      |(go_at_call 49;refine (cL (xs.take k) _ _ (by exact HTK.out) (by rw[List.length_take,HL.out];omega)).mono ?_;rintro e w1 ⟨v1,rfl,hown1,hb1⟩;have hc1:w1.cell? ⟨b,o+k,none⟩=some (.int .u32 (p:Int)):=(hb1.cell hb).trans hcell)
      |(go_at_call 170;refine (jL (xs.take k) _ _ (by exact hown1.sl) (HO.out.take _)).mono ?_;rintro e w2 ⟨v2,rfl,⟨A2,c2,rfl,hc2,hm2,hr2⟩,rfl⟩))
    clear hs';go_wp2_with fail
    go_meet
    case rel=>
     refine⟨?_,ig hb1⟩;rw[lQ HX.out HO.out HL.out (by omega) hs32 HP.out HN.out,decide_eq_true HT.out,Bool.true_and]
     congr 1
     rw[Bool.eq_iff_iff,beq_iff_eq,decide_eq_true_iff];rw[xP s hs32,nu s hs32,qg p s hp hs32];omega
   ·have hq:(((ai ag (val ag (xs.take k))).length:Int)==0)=false:=by
     apply beq_eq_false_iff_ne.2
     intro e;exact hT (HQ1.out.1 (by omega))
    have HT:=zH hT;clear hT
    (refine wp_region_any (by kernel_rfl) ?_;(try (change wpAny _ _ _ _ _ _ _ (World.drew _))))
    (refine wpAny_take (i:=0) (v:=?_) rfl (by kernel_rfl) (by kernel_rfl) (by kernel_rfl) (fun _ _ _ h=>h) (Or.inl ⟨by kernel_rfl,?_⟩) ?_;rotate_left;((intro w;go_simp)<;>(with_reducible rfl));(try simp only[Act.put,L1,L2]))
    (refine wpAny_take (i:=1) (v:=?_) rfl (by kernel_rfl) (by kernel_rfl) (by kernel_rfl) (fun _ _ _ h=>h) (Or.inl ⟨by kernel_rfl,?_⟩) ?_;rotate_left;((intro w;go_simp)<;>(with_reducible rfl));(try simp only[Act.put,L1,L2]))
    (refine wpAny_take (i:=2) (v:=?_) rfl (by kernel_rfl) (by kernel_rfl) (by kernel_rfl) (fun _ _ _ h=>h) (Or.inl ⟨by kernel_rfl,?_⟩) ?_;rotate_left;((intro w;go_simp)<;>(with_reducible rfl));(try simp only[Act.put,L1,L2]))
    (refine wpAny_ready (rs:=[3]) (by kernel_rfl) (by simp) ?_;refine AllReady.cons rfl (fun K hK=>?_) AllReady.nil;go_simp)
    refine (cL (xs.take k) _ _ (by exact HTK.out) (by rw[List.length_take,HL.out];omega)).mono ?_;rintro e w1 ⟨v1,rfl,hown1,hb1⟩
    (refine hK _ _ ?_;clear hK K;(try simp only[Act.put,L1,L2]))
    (refine wpAny_ready (rs:=[4]) (by kernel_rfl) (by simp) ?_;refine AllReady.cons rfl (fun K hK=>?_) AllReady.nil;go_simp)
    refine (jL (xs.take k) _ _ (by exact hown1.sl) (HO.out.take _)).mono ?_;rintro e w2 ⟨v2,rfl,⟨A2,c2,rfl,hc2,hm2,hr2⟩,rfl⟩
    (refine hK _ _ ?_;clear hK K;(try simp only[Act.put,L1,L2]))
    (refine wpAny_take (i:=5) (v:=?_) rfl (by kernel_rfl) (by kernel_rfl) (by kernel_rfl) (fun _ _ _ h=>h) (Or.inl ⟨by kernel_rfl,?_⟩) ?_;rotate_left;((intro w;go_simp)<;>(with_reducible rfl));(try simp only[Act.put,L1,L2]))
    (refine wpAny_take (i:=6) (v:=?_) rfl (by kernel_rfl) (by kernel_rfl) (by kernel_rfl) (fun _ _ _ h=>h) (Or.inl ⟨by kernel_rfl,?_⟩) ?_;rotate_left;((intro w;go_simp)<;>(with_reducible rfl));(try simp only[Act.put,L1,L2]))
    (refine wpAny_take (i:=7) (v:=?_) rfl (by kernel_rfl) (by kernel_rfl) (by kernel_rfl) (fun _ _ _ h=>h) (Or.inl ⟨by kernel_rfl,?_⟩) ?_;rotate_left;((intro w;go_simp)<;>(with_reducible rfl));(try simp only[Act.put,L1,L2]))
    (refine wpAny_take (i:=8) (v:=undef) rfl (by kernel_rfl) (by kernel_rfl) (by kernel_rfl) (fun _ _ _ h=>h) (Or.inr ⟨by kernel_rfl,rfl⟩) ?_;(try simp only[Act.put,L1,L2]))
    (refine wpAny_take (i:=9) (v:=undef) rfl (by kernel_rfl) (by kernel_rfl) (by kernel_rfl) (fun _ _ _ h=>h) (Or.inr ⟨by kernel_rfl,rfl⟩) ?_;(try simp only[Act.put,L1,L2]))
    (refine wpAny_take (i:=10) (v:=undef) rfl (by kernel_rfl) (by kernel_rfl) (by kernel_rfl) (fun _ _ _ h=>h) (Or.inr ⟨by kernel_rfl,rfl⟩) ?_;(try simp only[Act.put,L1,L2]))
    (refine wpAny_take (i:=11) (v:=undef) rfl (by kernel_rfl) (by kernel_rfl) (by kernel_rfl) (fun _ _ _ h=>h) (Or.inr ⟨by kernel_rfl,rfl⟩) ?_;(try simp only[Act.put,L1,L2]))
    (refine wpAny_take (i:=12) (v:=undef) rfl (by kernel_rfl) (by kernel_rfl) (by kernel_rfl) (fun _ _ _ h=>h) (Or.inr ⟨by kernel_rfl,rfl⟩) ?_;(try simp only[Act.put,L1,L2]))
    (refine wpAny_take (i:=13) (v:=undef) rfl (by kernel_rfl) (by kernel_rfl) (by kernel_rfl) (fun _ _ _ h=>h) (Or.inr ⟨by kernel_rfl,rfl⟩) ?_;(try simp only[Act.put,L1,L2]))
    (refine wpAny_take (i:=14) (v:=undef) rfl (by kernel_rfl) (by kernel_rfl) (by kernel_rfl) (fun _ _ _ h=>h) (Or.inr ⟨by kernel_rfl,rfl⟩) ?_;(try simp only[Act.put,L1,L2]))
    (refine wpAny_take (i:=15) (v:=undef) rfl (by kernel_rfl) (by kernel_rfl) (by kernel_rfl) (fun _ _ _ h=>h) (Or.inr ⟨by kernel_rfl,rfl⟩) ?_;(try simp only[Act.put,L1,L2]))
    (refine wpAny_take (i:=16) (v:=undef) rfl (by kernel_rfl) (by kernel_rfl) (by kernel_rfl) (fun _ _ _ h=>h) (Or.inr ⟨by kernel_rfl,rfl⟩) ?_;(try simp only[Act.put,L1,L2]))
    (refine wpAny_take (i:=17) (v:=undef) rfl (by kernel_rfl) (by kernel_rfl) (by kernel_rfl) (fun _ _ _ h=>h) (Or.inr ⟨by kernel_rfl,rfl⟩) ?_;(try simp only[Act.put,L1,L2]))
    (refine wpAny_take (i:=18) (v:=?_) rfl (by kernel_rfl) (by kernel_rfl) (by kernel_rfl) (fun _ _ _ h=>h) (Or.inl ⟨by kernel_rfl,?_⟩) ?_;rotate_left;((intro w;go_simp)<;>(with_reducible rfl));(try simp only[Act.put,L1,L2]))
    (refine wpAny_take (i:=19) (v:=?_) rfl (by kernel_rfl) (by kernel_rfl) (by kernel_rfl) (fun _ _ _ h=>h) (Or.inl ⟨by kernel_rfl,?_⟩) ?_;rotate_left;((intro w;go_simp)<;>(with_reducible rfl));(try simp only[Act.put,L1,L2]))
    (refine wpAny_done (by kernel_rfl) ?_ _)
    go_wp2_with fail
    go_meet
    case rel=>
     refine⟨?_,ig hb1⟩;rw[lQ HX.out HO.out HL.out (by omega) hs32 HP.out HN.out,decide_eq_false HT.out];rfl
  case rest=>
   obtain⟨rfl,HBc⟩:=hcut;clear hcell hk0 hkc;obtain⟨i0,hi0,hz0,hz1,hz2⟩:=info_parts fS;have HI:=zH hi0;have HZ0:=zH hz0;have HZ1:=zH hz1;have HZ2:=zH hz2;clear hi0 hz0 hz1 hz2
   go_wp2_with (at_make;refine wpList_make_full _ rfl _ _ 22 rfl w.heap.size 82 i0 (.int .u32 0) 1 Tryz.underlying22 HI.out HZ0.out HZ1.out .i64 .i64 _ _ (l-k) rfl rfl (by omega) (by omega) (by rw[HZ2.out];omega) (by unfold maxLen;omega) HBc.out.size ?_;intro w1 hown1 hg1)
   obtain⟨g0,hg0⟩:∃ g0,g0=wc.heap.size:=⟨_,rfl⟩;rw[<-hg0]at hown1 ⊢;have HG:Hid (w.heap.size<=g0):=by rw[hg0];exact HBc.out.size
   have HOW:=zH (bT.made hown1);have HB:=zH (HBc.out.grown hg1 HBc.out.size (by simp));clear hown1 hg1 hg0
   go_loopg [44] (l-k) (fun g i wr=>∃ (j:Nat) (out:List Nat),g+j+k=l/\i=.int .i64 (j:Int)/\Hid (bT .u32 82 wr w.heap.size g0 (l-k) (l-k) out)/\Hid (Below w.heap.size w wr)/\Hid (val ag (out.take j)+ag ^ j*(val ag (xs.drop (k+j)) / 2 ^ s)=val ag (xs.drop k) / 2 ^ s)/\Hid (Ok ag out))
   case atStart=>exact⟨0,_,by omega,rfl,HOW.out,HB.out,by unfold Hid;simp,cf (by decide)⟩
   case round=>
    obtain⟨j,out,hgj,rfl,HOw,HBw,HV,HOo⟩:=hrel;by_cases hj:k+j<l
    ·obtain⟨b',o',p',e',hb',hpe,hcell⟩:=(HR.out.below HBw.out).at_ (i:=j+k) (by omega)
     injection e' with e'
     injection e' with e1 e2
     subst e1 e2;have hp':p'<4294967296:=by rw[<-hpe];exact HO.out.getD (by decide) _
     have HP':=zH hpe;clear hpe;obtain⟨y,hy⟩:∃ y:Nat,wr.cell? ⟨g0,j,none⟩=some (.int .u32 (y:Int)):=⟨_,HOw.out.cell (by omega)⟩;have hf:=HOw.out.frozen j;by_cases hj2:j+k+1<l
     ·obtain⟨b',o',q',e',hb'',hqe,hcell2⟩:=(HR.out.below HBw.out).at_ (i:=j+k+1) (by omega)
      injection e' with e'
      injection e' with e1 e2
      subst e1 e2;have hq':q'<4294967296:=by rw[<-hqe];exact HO.out.getD (by decide) _
      have HQ':=zH hqe;clear hqe;have hor:=li q' p' hq' hp'
      go_wp2
      go_roundg (gk-1)
      case measure=>omega
      case rel=>
       rw[qf];exact⟨j+1,_,by omega,by go_num,HOw.out.stored _ _,HBw.out.setCell HG.out _,gQ (by rw[HOw.out.1];omega) HO.out hs32 HP'.out HQ'.out HV.out,HOo.out.set (Nat.mod_lt _ (by decide))⟩
     ·have HQ':Hid (xs.getD (j+k+1) 0=0):=gz (by rw[HL.out];omega)
      go_wp2
      go_roundg (gk-1)
      case measure=>omega
      case rel=>
       have e:=qf p' 0 s;rw[Int.natCast_zero,Int.zero_mul,Int.zero_add]at e;rw[e];exact⟨j+1,_,by omega,by go_num,HOw.out.stored _ _,HBw.out.setCell HG.out _,gQ (by rw[HOw.out.1];omega) HO.out hs32 HP'.out HQ'.out HV.out,HOo.out.set (Nat.mod_lt _ (by decide))⟩
    ·obtain rfl:j=l-k:=by omega
     go_wp2_with (go_at_call 170;refine (go out _ (l-k) (l-k) _ _ HOw.out.rd HOo.out (Nat.le_refl _) (by unfold maxLen;omega)).mono ?_;rintro e w' ⟨m,rfl,hm',ht,rfl⟩)
     go_ret2
     rw[yi HL.out HO.out (by omega) HOw.out.1 HX.out HN.out HV.out]at ht;exact⟨_,rfl,Sl.of_rd HOw.out.rd hm' (Nat.le_refl _) (by unfold maxLen;omega) ht,HBw.out⟩
end Go.Proofs.YtlhojoefhannnaaGreat
namespace Go.Proofs.YtlhojoefhannnaaGreat.NumB
theorem wE (B:Nat) (xs:List Nat) {n:Nat} (hn:2<=n) (hl:xs.length=n):
 val B xs=(xs.getD (n-1) 0*B+xs.getD (n-2) 0)*B ^ (n-2)+val B (xs.take (n-2)):=by
 have h1:=bk B xs (n-2);have h2:=ap B xs (n-2);have h3:=ap B xs (n-2+1);rw[List.drop_eq_nil_of_le (i:=n-2+1+1) (by omega),val_nil,Nat.mul_zero,show n-2+1=n-1 from by omega]at h3;rw[Nat.add_zero]at h3;rw[show n-2+1=n-1 from by omega,h3]at h2;rw[h1,h2,Nat.mul_comm (B ^ (n-2)),Nat.add_comm (xs.getD (n-2) 0),Nat.mul_comm B,Nat.add_comm]
theorem yL {U V t v R ur vr g:Nat} (hV:V=v*R+vr) (hU:U=t*R+ur) (hur:ur<R) (h:t<g*v) (hV0:0<V):U / V<g:=by
 rw[Nat.div_lt_iff_lt_mul hV0,hU,hV];have h1:(t+1)*R<=g*v*R:=Nat.mul_le_mul_right _ h;have h2:g*(v*R+vr)=g*v*R+g*vr:=by rw[Nat.mul_add,Nat.mul_assoc]
 rw[Nat.add_mul,Nat.one_mul]at h1;omega
theorem zV {U V t v R ur vr g:Nat} (hV:V=v*R+vr) (hU:U=t*R+ur) (hvr:vr<R) (h:g*v<=t) (hg:g<=v) (hV0:0<V):g<=U / V+1:=by
 rcases Nat.eq_zero_or_pos g with h0|h0
 ·rw[h0];exact Nat.zero_le _
 have h1:g-1<=U / V:=by
  rw[Nat.le_div_iff_mul_le hV0,hU];have e:(g-1)*V+V=g*V:=by
   rw[<-Nat.succ_mul];congr 1;omega
  have h2:g*V=g*v*R+g*vr:=by rw[hV,Nat.mul_add,Nat.mul_assoc]
  have h3:g*v*R<=t*R:=Nat.mul_le_mul_right _ h;have h4:g*vr<=v*R:=Nat.mul_le_mul hg (by omega);omega
 omega
theorem vI {g r v1 t un u1 B:Nat} (ht:t=un*B+u1) (hu1:u1<B) (hun:un<=v1) (he:g*v1+r=t) (hr:B<=r) (hv1:0<v1):g<B:=by
 rcases Nat.lt_or_ge g B with h|h
 ·exact h
 ·have h1:B*v1<=g*v1:=Nat.mul_le_mul_right _ h;have h2:un*B<=v1*B:=Nat.mul_le_mul_right _ hun;rw[Nat.mul_comm B v1]at h1;omega
theorem xC {g r v1 v2 t u2 B:Nat} (he:g*v1+r=t) (h:g*v2<=r*B+u2):g*(v1*B+v2)<=t*B+u2:=by
 rw[Nat.mul_add,<-Nat.mul_assoc,<-he,Nat.add_mul];omega
theorem xD {g r v1 v2 t u2 B:Nat} (he:g*v1+r=t) (h:r*B+u2<g*v2):t*B+u2<g*(v1*B+v2):=by
 rw[Nat.mul_add,<-Nat.mul_assoc,<-he,Nat.add_mul];omega
theorem vJ {g r v2 u2 B:Nat} (hg:g<B) (hv2:v2<B) (hr:B<=r):g*v2<=r*B+u2:=by
 have h1:g*v2<=B*B:=Nat.mul_le_mul (by omega) (by omega);have h2:B*B<=r*B:=Nat.mul_le_mul_right _ hr;omega
theorem yY {U V un v1 B n:Nat} (hU:un*B ^ n<=U) (hV:V<(v1+1)*B ^ (n-1)) (hlt:U<V*B) (hn:0<n) (hB:0<B):un<=v1:=by
 rcases Nat.lt_or_ge v1 un with h|h
 ·exfalso;have h1:(v1+1)*B ^ n<=un*B ^ n:=Nat.mul_le_mul_right _ h;have h2:V*B<(v1+1)*B ^ (n-1)*B:=Nat.mul_lt_mul_of_pos_right hV hB;rw[Nat.mul_assoc,<-Nat.pow_succ,show (n-1).succ=n from by omega]at h2;omega
 ·exact h
theorem xL {Vu Vc Vv P g u v c b x b' B:Nat} (h:Vu+P*(b+c)=Vc+g*Vv) (hx:u+B*b'=x+(c+g*v) % B+b):
 (Vu+P*u)+(P*B)*(b'+(c+g*v) / B)=(Vc+P*x)+g*(Vv+P*v):=by
 have h1:=iv P B (c+g*v);have h2:P*u+P*B*b'=P*x+P*((c+g*v) % B)+P*b:=by
  rw[Nat.mul_assoc,<-Nat.mul_add,hx,Nat.mul_add,Nat.mul_add]
 have h3:g*(Vv+P*v)=g*Vv+P*(g*v):=by rw[Nat.mul_add,Nat.mul_left_comm]
 rw[Nat.mul_add]at h;rw[Nat.mul_add]at h1;rw[Nat.mul_add,h3];omega
end Go.Proofs.YtlhojoefhannnaaGreat.NumB

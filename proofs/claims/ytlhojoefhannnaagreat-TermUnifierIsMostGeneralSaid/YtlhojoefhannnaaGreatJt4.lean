/- nat.digit: one digit of a quotient. Conditions: at most 100000 limbs. And 2 more texts. -/
import Derived.Deep.CutBlock
import Derived.Lib.ItoaNum
import Derived.Laws.CopyOwn
import Derived.Test.YtlhojoefhannnaaGreatJt3
set_option linter.unusedVariables false
set_option linter.unusedSimpArgs false
set_option maxRecDepth 100000
set_option maxHeartbeats 51200000
namespace Go.Proofs.YtlhojoefhannnaaGreat
open Go.RowKit NumB
def KD (us vs:List Nat) (n t u2 v1 v2:Nat):Prop:=
 us.length=n+1/\vs.length=n/\Ok ag us/\Ok ag vs/\2<=n/\us.getD n 0*4294967296+us.getD (n-1) 0=t/\us.getD (n-2) 0=u2/\vs.getD (n-1) 0=v1/\vs.getD (n-2) 0=v2/\2147483648<=v1/\val ag us<val ag vs*4294967296
def mK (us vs:List Nat) (g:Nat):Prop:=val ag us / val ag vs<=g/\g<=val ag us / val ag vs+1/\g<4294967296
section
variable {us vs:List Nat} {n t u2 v1 v2:Nat}
theorem KD.split (h:KD us vs n t u2 v1 v2):∃ R ur vr,val ag vs=(v1*4294967296+v2)*R+vr/\vr<R/\val ag us=(t*4294967296+u2)*R+ur/\ur<R:=by
 obtain⟨k1,k2,k3,k4,h2n,k5,k6,k7,k8,hv1,k9⟩:=h;refine⟨ag ^ (n-2),val ag (us.take (n-2)),val ag (vs.take (n-2)),?_,bI k4 (by omega),?_,bI k3 (by omega)⟩
 ·have:=wE ag vs h2n k2;rw[k7,k8]at this;exact this
 ·have e1:=bk ag us (n-2);have e2:=ap ag us (n-2);have e3:=ap ag us (n-1);have e4:=ap ag us n;rw[List.drop_eq_nil_of_le (i:=n+1) (by omega),val_nil,Nat.mul_zero,Nat.add_zero]at e4;rw[show n-1+1=n from by omega,e4]at e3;rw[show n-2+1=n-1 from by omega,e3,k6]at e2;rw[e1,e2,Nat.mul_comm (ag ^ (n-2)),Nat.add_comm]
  congr 2
  rw[<-k5,show ag=4294967296 from rfl];omega
theorem KD.pos (h:KD us vs n t u2 v1 v2):0<val ag vs:=by
 obtain⟨R,ur,vr,e1,h1,e2,h2⟩:=h.split;obtain⟨k1,k2,k3,k4,h2n,k5,k6,k7,k8,hv1,k9⟩:=h;have:0<(v1*4294967296+v2)*R:=Nat.mul_pos (by omega) (by omega);omega
theorem KD.div_lt (h:KD us vs n t u2 v1 v2):val ag us / val ag vs<4294967296:=by
 rw[Nat.div_lt_iff_lt_mul h.pos,Nat.mul_comm];exact h.2.2.2.2.2.2.2.2.2.2
theorem KD.dec (h:KD us vs n t u2 v1 v2) {g r:Nat} (he:g*v1+r=t) (hq:val ag us / val ag vs<=g) (hc:4294967296<=g\/r*4294967296+u2<g*v2):val ag us / val ag vs<=g-1/\1<=g:=by
 have hlt:val ag us / val ag vs<g:=by
  rcases hc with hc|hc
  ·exact Nat.lt_of_lt_of_le h.div_lt hc
  ·obtain⟨R,ur,vr,e1,h1,e2,h2⟩:=h.split;exact yL e1 e2 h2 (xD he hc) h.pos
 generalize val ag us / val ag vs=q at*;omega
theorem KD.fin (h:KD us vs n t u2 v1 v2) {g r:Nat} (he:g*v1+r=t) (hq:val ag us / val ag vs<=g) (hg:g<4294967296) (hc:g*v2<=r*4294967296+u2):mK us vs g:=by
 obtain⟨R,ur,vr,e1,h1,e2,h2⟩:=h.split;have hv1:=h.2.2.2.2.2.2.2.2.2.1;exact⟨hq,zV e1 e2 h1 (xC he hc) (by omega) h.pos,hg⟩
theorem KD.brk (h:KD us vs n t u2 v1 v2) {g r:Nat} (he:g*v1+r=t) (hq:val ag us / val ag vs<=g) (hr:4294967296<=r):mK us vs g:=by
 have h':=h;obtain⟨k1,k2,k3,k4,h2n,k5,k6,k7,k8,hv1,k9⟩:=h';have hb2:v2<4294967296:=by rw[<-k8];exact k4.getD (by decide) _
 have hb5:us.getD (n-1) 0<4294967296:=k3.getD (by decide) _;have hun:us.getD n 0<=v1:=by
  have e1:=bk ag us n;have e4:=ap ag us n;rw[List.drop_eq_nil_of_le (i:=n+1) (by omega),val_nil,Nat.mul_zero,Nat.add_zero]at e4;have e5:=bk ag vs (n-1);have e6:=ap ag vs (n-1);rw[List.drop_eq_nil_of_le (i:=n-1+1) (by omega),val_nil,Nat.mul_zero,Nat.add_zero,k7]at e6;have h5:=bI k4 (j:=n-1) (by omega);refine yY (B:=ag) (n:=n) (U:=val ag us) (V:=val ag vs) ?_ ?_ k9 (by omega) (by decide)
  ·rw[e1,e4,Nat.mul_comm];omega
  ·rw[e5,e6,Nat.add_mul,Nat.one_mul,Nat.mul_comm v1];omega
 have hg:g<4294967296:=vI k5.symm hb5 hun he hr (by omega);exact h.fin he hq hg (vJ hg hb2 hr)
theorem KD.start (h:KD us vs n t u2 v1 v2) {g:Nat} {r:Nat} (he:g*v1+r=t) (hr:r<v1):val ag us / val ag vs<=g:=by
 rcases Nat.lt_or_ge g (val ag us / val ag vs) with hlt|hge
 ·exfalso;have hq:(g+1)*val ag vs<=val ag us:=by
   rw[<-Nat.le_div_iff_mul_le h.pos];exact hlt
  obtain⟨R,ur,vr,e1,h1,e2,h2⟩:=h.split;have h3:t+1<=(g+1)*v1:=by rw[Nat.add_mul,Nat.one_mul];omega
  have h4:(t+1)*4294967296<=(g+1)*v1*4294967296:=Nat.mul_le_mul_right _ h3;have hb3:u2<4294967296:=by
   obtain⟨k1,k2,k3,k4,h2n,k5,k6,k7,k8,hv1,k9⟩:=h;rw[<-k6];exact k3.getD (by decide) _
  have h5:t*4294967296+u2<(g+1)*(v1*4294967296+v2):=by
   rw[Nat.mul_add (g+1),<-Nat.mul_assoc];omega
  have h6:=yL e1 e2 h2 h5 h.pos;omega
 ·exact hge
end
theorem ie (y:Nat) (hy:y<18446744073709551616):bits .and .u64 (y:Int) 1=((y % 2:Nat):Int):=by
 have h:=u64_and (y:Int) 1 (by omega) (by omega) (by omega) (by omega);rw[Int.toNat_natCast,show (1:Int).toNat=1 from rfl,Nat.and_one_is_mod]at h;exact h
theorem wH (p l b:Nat) (hp:p<4294967296) (hl:l<4294967296) (hb:b<=1):
 IntKind.u64.wrap (IntKind.u64.wrap ((p:Int)-(l:Int))-(b:Int))=(((p+18446744073709551616-l-b) % 18446744073709551616:Nat):Int):=by
 rw[IntKind.wrap_u64,IntKind.wrap_u64];omega
theorem np (p l bo:Nat) (hp:p<4294967296) (hl:l<4294967296) (hbo:bo<=1):
 ∃ x b:Nat,IntKind.u64.wrap (IntKind.u64.wrap ((p:Int)-(l:Int))-(bo:Int)) % 4294967296=(x:Int)/\
  bits .and .u64 (IntKind.u64.wrap (IntKind.u64.wrap ((p:Int)-(l:Int))-(bo:Int)) / 4294967296) 1=(b:Int)/\x<4294967296/\b<=1/\p+4294967296*b=x+l+bo:=by
 rw[wH p l bo hp hl hbo];generalize hX:(p+18446744073709551616-l-bo) % 18446744073709551616=X;refine⟨X % 4294967296,X / 4294967296 % 2,(ek X).1,?_,by omega,by omega,by omega⟩;rw[(ek X).2,ie _ (by omega)]
theorem wT (pre cs post:List Nat) (i x:Nat) (hi:i<cs.length):(pre++cs++post).set (pre.length+i) x=pre++cs.set i x++post:=by
 rw[List.append_assoc,List.set_append_right _ _ (by omega),List.append_assoc,List.set_append_left _ _ (by omega)]
 congr 3
 omega
theorem wS (pre cs post:List Nat) (i:Nat) (hi:i<cs.length):(pre++cs++post).getD (pre.length+i) 0=cs.getD i 0:=by
 rw[List.append_assoc,List.getD_eq_getElem?_getD,List.getElem?_append_right (by omega),List.getElem?_append_left (by omega),List.getD_eq_getElem?_getD]
 congr 2
 omega
theorem eN {a w:World} {g:Nat} (h:a.grownBy w (some g)) (o:Nat) (u:Value):a.grownBy (w.setCell ⟨g,o,none⟩ u) (some g):=
 ⟨h.os,h.tape,h.output,by simpa[World.setCell] using h.size,fun i hi hne=>(Below.heap_setCell w ⟨g,o,none⟩ u i (by
  rintro rfl;exact hne rfl)).trans (h.block i hi hne)⟩
theorem pu {a w:World} {row:Option Nat} (h:a.grownBy w row) (n:Nat):a.grownBy (w.drewN n) row:=⟨h.os,h.tape,h.output,h.size,h.block⟩
theorem kg {a w:World} {g:Nat} (h:a.grownBy w (some g)) {p:Addr} {v:Value} (hc:a.cell? p=some v) (hne:p.block≠g):w.cell? p=some v:=
 h.cell hc (fun e=>hne (by injection e))
theorem bJ {w:World} {B gb N c n off i:Nat} {pre cs post:List Nat} (h:bT .u32 82 w B gb N c (pre++cs++post)) (hl:cs.length=n+1) (hoff:pre.length=off) (hi:i<=n):
 w.cell? ⟨gb,off+i,none⟩=some (.int .u32 ((cs.getD i 0:Nat):Int)):=by
 have h1:=h.1;rw[List.length_append,List.length_append]at h1;rw[h.cell (by omega),<-hoff,wS pre cs post i (by omega)]
theorem dy {w:World} {B gb N c n off i x:Nat} {pre cs post:List Nat} (h:bT .u32 82 w B gb N c (pre++cs++post)) (hl:cs.length=n+1) (hoff:pre.length=off) (hi:i<=n):
 bT .u32 82 (w.setCell ⟨gb,off+i,none⟩ (.int .u32 (x:Int))) B gb N c (pre++cs.set i x++post):=by
 rw[<-wT pre cs post i x (by omega),hoff];exact h.stored _ _
theorem xK {us cs vs:List Nat} {i bo ca g p q x b n:Nat} (hl:cs.length=n+1) (hi:i<=n) (hp:us.getD i 0=p) (hq:vs.getD i 0=q)
 (he:val ag (us.take i)+ag ^ i*(bo+ca)=val ag (cs.take i)+g*val ag (vs.take i)) (hx:p+4294967296*b=x+(ca+g*q) % 4294967296+bo):
 val ag (us.take (i+1))+ag ^ (i+1)*(b+(ca+g*q) / 4294967296)=val ag ((cs.set i x).take (i+1))+g*val ag (vs.take (i+1)):=by
 rw[ax,ax,ax,bZ _ _ _ _ (Nat.le_refl _),aW _ _ _ (by omega),hp,hq,Nat.pow_succ];exact xL he hx
theorem pJ {us cs vs:List Nat} {k bo ca g p x b:Nat} (hu:us.length=k+1) (hl:cs.length=k+1) (hv:vs.length=k) (hp:us.getD k 0=p)
 (he:val ag (us.take k)+ag ^ k*(bo+ca)=val ag (cs.take k)+g*val ag (vs.take k)) (hx:p+4294967296*b=x+ca+bo):
 val ag us+ag ^ (k+1)*b=val ag (cs.set k x)+g*val ag vs:=by
 have h1:=ax ag us k;have h2:=ax ag (cs.set k x) k;rw[aX ag us (by omega),hp]at h1;rw[aX ag (cs.set k x) (by simp;omega),bZ _ _ _ _ (Nat.le_refl _),aW _ _ _ (by omega)]at h2;rw[aX ag vs (by omega),Nat.mul_add]at he;have h3:ag ^ k*p+ag ^ (k+1)*b=ag ^ k*x+ag ^ k*ca+ag ^ k*bo:=by
  rw[Nat.pow_succ,Nat.mul_assoc,<-Nat.mul_add,show ag*b=4294967296*b from rfl,hx,Nat.mul_add,Nat.mul_add]
 omega
theorem vA {U V C g:Nat} (hV:0<V) (h:U=C+g*V) (hq:U / V<=g):g=U / V/\C=U % V:=by
 have h1:g<=U / V:=by rw[Nat.le_div_iff_mul_le hV];omega
 have h2:g=U / V:=by
  generalize U / V=q at*;omega
 refine⟨h2,?_⟩;have h3:=Nat.div_add_mod U V;rw[<-h2,Nat.mul_comm]at h3;omega
theorem xw {U V C g P:Nat} (hV:0<V) (h:U+P=C+g*V) (hC:C<P) (hq:g<=U / V+1):1<=g/\g-1=U / V/\C+V=P+U % V:=by
 have h1:U / V<g:=by rw[Nat.div_lt_iff_lt_mul hV];omega
 have h2:g=U / V+1:=by
  generalize U / V=q at*;omega
 have h3:=Nat.div_add_mod U V;have h4:g*V=V*(U / V)+V:=by rw[h2,Nat.add_mul,Nat.one_mul,Nat.mul_comm]
 generalize U / V=q at*;refine⟨by omega,by omega,by omega⟩
theorem u7 {cs ds vs:List Nat} {k ca x y r:Nat} (hl:cs.length=k+1) (hd:ds.length=k+1) (hv:vs.length=k) (hok:Ok ag ds) (hx:cs.getD k 0=x) (hxb:x<4294967296) (hca:ca<=1)
 (he:val ag (cs.take k)+val ag (vs.take k)=val ag (ds.take k)+ag ^ k*ca) (hy:y=(x+ca) % 4294967296) (hs:val ag cs+val ag vs=ag ^ (k+1)+r):
 val ag (ds.set k y)=r:=by
 have h1:=ax ag cs k;have h2:=ax ag (ds.set k y) k;rw[aX ag cs (by omega),hx]at h1;rw[aX ag (ds.set k y) (by simp;omega),bZ _ _ _ _ (Nat.le_refl _),aW _ _ _ (by omega)]at h2;rw[aX ag vs (by omega)]at he;have h3:=bI hok (j:=k) (by omega);have hW:ag=4294967296:=rfl;have hge:4294967296<=x+ca:=by
  rcases Nat.lt_or_ge (x+ca) 4294967296 with h|h
  ·exfalso;have h4:ag ^ k*(x+ca+1)<=ag ^ k*ag:=Nat.mul_le_mul_left _ (by rw[hW];omega);have hP:ag ^ (k+1)=ag ^ k*ag:=Nat.pow_succ _ _;rw[Nat.mul_add,Nat.mul_add,Nat.mul_one,<-hP]at h4;omega
  ·exact h
 have h5:ag ^ k*x+ag ^ k*ca=ag ^ k*y+ag ^ (k+1):=by
  rw[<-Nat.mul_add,Nat.pow_succ,<-Nat.mul_add,hW]
  congr 1
  omega
 omega
theorem vq (t v1:Nat) (ht:t<18446744073709551616) (hv:2147483648<=v1):∃ g0 r0:Nat,(t:Int).tdiv (v1:Int)=(g0:Int)/\(t:Int).tmod (v1:Int)=(r0:Int)/\(t:Int) / (v1:Int)=(g0:Int)/\(t:Int) % (v1:Int)=(r0:Int)/\g0*v1+r0=t/\r0<v1/\g0<8589934592:=by
 refine⟨t / v1,t % v1,?_,?_,?_,?_,?_,Nat.mod_lt _ (by omega),?_⟩
 ·rw[Int.tdiv_eq_ediv_of_nonneg (by omega),Int.natCast_ediv]
 ·rw[Int.tmod_eq_emod_of_nonneg (by omega),Int.natCast_emod]
 ·rw[Int.natCast_ediv]
 ·rw[Int.natCast_emod]
 ·rw[Nat.mul_comm];exact Nat.div_add_mod t v1
 ·rw[Nat.div_lt_iff_lt_mul (by omega)];have:8589934592*2147483648<=8589934592*v1:=Nat.mul_le_mul_left _ hv;omega
theorem tH (pre us post vs:List Nat) (gb B N c off n cu cv:Nat) (A:Option Addr) (w:World) (hown:bT .u32 82 w B gb N c (pre++us++post)) (hoff:pre.length=off) (hv:Rd .u32 w gb A n vs)
 (t u2 v1 v2:Nat) (hkd:KD us vs n t u2 v1 v2) (hn:n<=100000) (hN:N<=1000000) (hcu:n+1<=cu):
 Calls Tryz.prog 168 #[.slice (some ⟨gb,off,none⟩) (n+1) cu,.slice A n cv] w fun e w'=>∃ us',e=.returned (.int .u32 ((val ag us / val ag vs:Nat):Int))/\bT .u32 82 w' B gb N c (pre++us'++post)/\us'.length=n+1/\Ok ag us'/\val ag us'=val ag us % val ag vs/\w.grownBy w' (some gb):=by
 have HOF:=zH hoff;have HK:=zH hkd;have HO:=zH hown;have HV:=zH hv;clear hkd hown hv;obtain⟨k1,k2,k3,k4,h2n,k5,k6,k7,k8,hv1,k9⟩:=HK.out;obtain⟨bv,ov,rfl,hbv,hcv⟩:=HV.out.2 (by omega);have hcv1:=hcv (n-1) (by omega);have hcv2:=hcv (n-2) (by omega);rw[k7]at hcv1;rw[k8]at hcv2;have hcu0:w.cell? ⟨gb,off+n,none⟩=some (.int .u32 ((us.getD n 0:Nat):Int)):=bJ HO.out k1 hoff (Nat.le_refl _);have hcu1:w.cell? ⟨gb,off+(n-1),none⟩=some (.int .u32 ((us.getD (n-1) 0:Nat):Int)):=bJ HO.out k1 hoff (by omega);have hcu2:w.cell? ⟨gb,off+(n-2),none⟩=some (.int .u32 (u2:Int)):=by rw[<-k6];exact bJ HO.out k1 hoff (by omega)
 have hb1:v1<4294967296:=by rw[<-k7];exact k4.getD (by decide) _
 have hb2:v2<4294967296:=by rw[<-k8];exact k4.getD (by decide) _
 have hb3:u2<4294967296:=by rw[<-k6];exact k3.getD (by decide) _
 have hb4:us.getD n 0<4294967296:=k3.getD (by decide) _;have hb5:us.getD (n-1) 0<4294967296:=k3.getD (by decide) _;generalize hp0:us.getD n 0=p0 at*;generalize hp1:us.getD (n-1) 0=p1 at*;have HP:=zH (And.intro hp0 hp1);clear hp0 hp1 hcv k1 k2 k3 k4 k6 k7 k8 k9;have HT:=zH k5;have htb:t<18446744073709551616:=by omega
 have hor:=fw p0 p1 hb4 hb5;have ht':(p0:Int)*4294967296+(p1:Int)=(t:Int):=by omega
 clear k5;have hn1:(0:Int)<=(n:Int)-1:=by omega
 have hn2:(0:Int)<=(n:Int)-2:=by omega
 have hn3:(n:Int)-1<(n:Int)+1:=by omega
 go_enter Tryz.func168,Tryz.ntmps168;go_wp2_with fail
 go_quiet (fail)
 go_wp2_with fail;clear hor ht';obtain⟨g0,r0,hg0,hr0,hg0',hr0',hgr,hrv,hgb⟩:∃ g0 r0:Nat,(t:Int).tdiv (v1:Int)=(g0:Int)/\(t:Int).tmod (v1:Int)=(r0:Int)/\(t:Int) / (v1:Int)=(g0:Int)/\(t:Int) % (v1:Int)=(r0:Int)/\g0*v1+r0=t/\r0<v1/\g0<8589934592:=vq t v1 htb hv1;have HG:=zH hgr;clear hgr
 go_quiet (fail)
 clear hg0 hr0 hg0' hr0'
 go_upto_block 0 with fail
 go_cut [7,8] (fun s7 s8 wx=>∃ g r m:Nat,s7=.int .u64 (g:Int)/\s8=.int .u64 (r:Int)/\Hid (mK us vs g)/\Hid (wx=w.drewN m))
 case first=>
  go_wp2_with fail
  go_loopg [7,8] g0 (fun gk s7 s8 wx=>∃ r m:Nat,s7=.int .u64 (gk:Int)/\s8=.int .u64 (r:Int)/\Hid (gk*v1+r=t)/\r<4294967296/\gk<8589934592/\Hid (val ag us / val ag vs<=gk)/\Hid (wx=w.drewN m))
  case atStart=>exact⟨r0,_,rfl,rfl,HG.out,by omega,hgb,HK.out.start HG.out hrv,by unfold Hid;first|rfl|(rw[World.drewN_drewN])|(rw[World.drewN_drewN,World.drewN_drewN])⟩
  case round=>
   obtain⟨r,m,rfl,rfl,HE,hr,hgk,HQ,HW⟩:=hrel;obtain rfl:=HW.out;by_cases hA:4294967296<=gk
   ·have hd:decide (0<(gk:Int) / 4294967296)=true:=by simp;omega
    go_wp2_with fail
    go_quiet (fail)
    clear hd;by_cases hC:4294967296<=r+v1
    ·go_wp2
     go_meet
     case rel=>
      have hd:=HK.out.dec HE.out HQ.out (.inl hA);exact⟨gk-1,r+v1,_,congrArg (Value.int .u64) (by omega),congrArg (Value.int .u64) (by omega),HK.out.brk (by rw[Nat.sub_mul,Nat.one_mul];have h1:=HE.out;have h2:v1<=gk*v1:=Nat.le_mul_of_pos_left _ (by omega);omega) hd.1 hC,by unfold Hid;first|rfl|(rw[World.drewN_drewN])|(rw[World.drewN_drewN,World.drewN_drewN])⟩
    ·go_wp2
     go_roundg (gk-1)
     case measure=>omega
     case rel=>
      have hd:=HK.out.dec HE.out HQ.out (.inl hA);exact⟨r+v1,_,congrArg (Value.int .u64) (by omega),congrArg (Value.int .u64) (by omega),by unfold Hid;rw[Nat.sub_mul,Nat.one_mul];have h1:=HE.out;have h2:v1<=gk*v1:=Nat.le_mul_of_pos_left _ (by omega);omega,by omega,by omega,hd.1,by unfold Hid;first|rfl|(rw[World.drewN_drewN])|(rw[World.drewN_drewN,World.drewN_drewN])⟩
   ·have hd:decide (0<(gk:Int) / 4294967296)=false:=by simp;omega
    have hm:gk*v2<18446744073709551616:=by
     have:gk*v2<=4294967295*4294967295:=Nat.mul_le_mul (by omega) (by omega);omega
    obtain⟨pr,hpr⟩:∃ pr,pr=gk*v2:=⟨_,rfl⟩;have HPR:=zH hpr;rw[<-hpr]at hm;have hmw:IntKind.u64.wrap ((gk:Int)*(v2:Int))=(pr:Int):=by
     rw[<-Int.natCast_mul,<-hpr,IntKind.wrap_u64];omega
    clear hpr;obtain⟨xr,hxr⟩:∃ xr,xr=r*4294967296+u2:=⟨_,rfl⟩;have HXR:=zH hxr;have hor:bits .or .u64 ((r:Int)*4294967296) (u2:Int)=(xr:Int):=by
     rw[fw r u2 hr hb3,hxr];exact (oH r u2).symm
    clear hxr;have hsw:IntKind.u64.wrap ((r:Int)*4294967296)=(r:Int)*4294967296:=by
     rw[IntKind.wrap_u64];omega
    by_cases hB:xr<pr
    ·have hd2:decide (xr<pr)=true:=decide_eq_true hB;have HD:=zH (HK.out.dec HE.out HQ.out (.inr (by rw[<-HXR.out,<-HPR.out];exact hB)));have hg1:1<=gk:=HD.out.2;go_wp2_with fail
     go_quiet (fail)
     clear hd hd2 hmw hor hsw;by_cases hC:4294967296<=r+v1
     ·go_wp2
      go_meet
      case rel=>
       exact⟨gk-1,r+v1,_,congrArg (Value.int .u64) (by omega),congrArg (Value.int .u64) (by omega),HK.out.brk (by rw[Nat.sub_mul,Nat.one_mul];have h1:=HE.out;have h2:v1<=gk*v1:=Nat.le_mul_of_pos_left _ (by omega);omega) HD.out.1 hC,by unfold Hid;first|rfl|(rw[World.drewN_drewN])|(rw[World.drewN_drewN,World.drewN_drewN])⟩
     ·go_wp2
      go_roundg (gk-1)
      case measure=>omega
      case rel=>
       exact⟨r+v1,_,congrArg (Value.int .u64) (by omega),congrArg (Value.int .u64) (by omega),by unfold Hid;rw[Nat.sub_mul,Nat.one_mul];have h1:=HE.out;have h2:v1<=gk*v1:=Nat.le_mul_of_pos_left _ (by omega);omega,by omega,by omega,HD.out.1,by unfold Hid;first|rfl|(rw[World.drewN_drewN])|(rw[World.drewN_drewN,World.drewN_drewN])⟩
    ·have hd2:decide (xr<pr)=false:=decide_eq_false hB;go_wp2_with fail
     go_quiet (fail)
     clear hd hd2 hmw hor hsw
     go_wp2
     go_meet
     case rel=>
      exact⟨gk,r,_,rfl,rfl,HK.out.fin HE.out HQ.out (by omega) (by rw[<-HXR.out,<-HPR.out];omega),by unfold Hid;first|rfl|(rw[World.drewN_drewN])|(rw[World.drewN_drewN,World.drewN_drewN])⟩
 case rest=>
  obtain⟨g,r,m,rfl,rfl,HG1,HW⟩:=hcut;have hg:g<4294967296:=HG1.out.2.2;clear hrv hgb HG hn1 hn2 hn3 hcu0 hcu1 hcu2 hcv1 hcv2 htb hb1 hb2 hb3 hb4 hb5;have HGW:Hid (w.grownBy wc (some gb)):=by rw[HW.out];exact⟨rfl,rfl,rfl,Nat.le_refl _,fun _ _ _=>rfl⟩
  have HOc:Hid (bT .u32 82 wc B gb N c (pre++us++post)):=by rw[HW.out];exact HO.out
  clear HW;go_wp2_with fail
  go_loopg [84,9,10] n (fun gk si sb sc wx=>∃ (i bo ca:Nat) (cs:List Nat),gk+i=n/\si=.int .i64 (i:Int)/\sb=.int .u64 (bo:Int)/\sc=.int .u64 (ca:Int)/\bo<=1/\ca<4294967296/\Hid (bT .u32 82 wx B gb N c (pre++cs++post))/\Hid (cs.length=n+1)/\Hid (Ok ag cs)/\Hid (∀ j,i<=j->cs.getD j 0=us.getD j 0)/\Hid (val ag (us.take i)+ag ^ i*(bo+ca)=val ag (cs.take i)+g*val ag (vs.take i))/\Hid (w.grownBy wx (some gb)))
  case atStart=>
   exact⟨0,0,0,us,by omega,rfl,rfl,rfl,by omega,by omega,HOc.out,HK.out.1,HK.out.2.2.1,fun _ _=>rfl,by unfold Hid;simp,HGW.out⟩
  case round=>
   obtain⟨i,bo,ca,cs,hgi,rfl,rfl,rfl,hbo,hca,HOw,HL,HOk,HJ,HE,HGB⟩:=hrel;by_cases hi:i<n
   ·obtain⟨p,hp⟩:∃ p,us.getD i 0=p:=⟨_,rfl⟩;obtain⟨q,hq⟩:∃ q,vs.getD i 0=q:=⟨_,rfl⟩;have HPQ:Hid (us.getD i 0=p/\vs.getD i 0=q):=⟨hp,hq⟩;have hpb:p<4294967296:=by rw[<-hp];exact HK.out.2.2.1.getD (by decide) _
    have hqb:q<4294967296:=by rw[<-hq];exact HK.out.2.2.2.1.getD (by decide) _
    have hcell:wr.cell? ⟨gb,off+i,none⟩=some (.int .u32 (p:Int)):=by
     rw[<-hp,<-HJ.out i (Nat.le_refl _)];exact bJ HOw.out HL.out HOF.out (by omega)
    have hcq:wr.cell? ⟨bv,ov+i,none⟩=some (.int .u32 (q:Int)):=by
     obtain⟨b',o',e',hb',hc'⟩:=HV.out.2 (by omega)
     injection e' with e'
     injection e' with e1 e2
     subst e1 e2;rw[<-hq];exact kg HGB.out (hc' i hi) (by show bv≠gb;omega)
    have hf:=HOw.out.frozen (off+i);clear hp hq;obtain⟨s,hs⟩:∃ s,s=ca+g*q:=⟨_,rfl⟩;have HS:=zH hs;have hsb:s<18446744073709551616:=by
     have:g*q<=4294967295*4294967295:=Nat.mul_le_mul (by omega) (by omega);omega
    have hgq:(g:Int)*(q:Int)=(s:Int)-(ca:Int):=by
     rw[<-Int.natCast_mul];omega
    have hcas:(ca:Int)<=(s:Int):=by omega
    clear hs
    go_wp2
    go_roundg (gk-1)
    case measure=>omega
    case rel=>
     have el:((ca:Int)+((s:Int)-(ca:Int))) % 4294967296=((s % 4294967296:Nat):Int):=by omega
     have eh:((ca:Int)+((s:Int)-(ca:Int))) / 4294967296=((s / 4294967296:Nat):Int):=by omega
     obtain⟨x,b,e1,e2,hxb,hbb,hx⟩:=np p (s % 4294967296) bo hpb (by omega) hbo;rw[el,eh,e1,e2];refine⟨i+1,b,s / 4294967296,cs.set i x,by omega,by go_num,rfl,rfl,hbb,by omega,dy HOw.out HL.out HOF.out (by omega),by unfold Hid;rw[List.length_set];exact HL.out,HOk.out.set hxb,?_,?_,eN HGB.out _ _⟩
     ·intro j hj;rw[NumB.getD_set_ne _ _ _ _ (by omega)];exact HJ.out j (by omega)
     ·rw[HS.out]at hx ⊢;exact xK HL.out (by omega) HPQ.out.1 HPQ.out.2 HE.out hx
   ·obtain⟨k,rfl⟩:∃ k,k=n:=⟨_,rfl⟩;obtain rfl:k=i:=by omega
    clear hgi hi;have hp0b:p0<4294967296:=by rw[<-HP.out.1];exact HK.out.2.2.1.getD (by decide) _
    have hcell:wr.cell? ⟨gb,off+k,none⟩=some (.int .u32 (p0:Int)):=by
     rw[<-HP.out.1,<-HJ.out k (Nat.le_refl _)];exact bJ HOw.out HL.out HOF.out (Nat.le_refl _)
    have hf:=HOw.out.frozen (off+k);by_cases hb:ca+bo<=p0
    ·have hand:bits .and .u64 (((p0:Int)-(ca:Int)-(bo:Int)) / 4294967296) 1=0:=by
      have e:((p0:Int)-(ca:Int)-(bo:Int)) / 4294967296=((0:Nat):Int):=by omega
      rw[e];exact ie 0 (by omega)
     go_wp2
     go_ret;have e:(p0:Int)-(ca:Int)-(bo:Int)=((p0-ca-bo:Nat):Int):=by omega
     rw[e];have ht:=pJ (x:=p0-ca-bo) (b:=0) HK.out.1 HL.out HK.out.2.1 HP.out.1 HE.out (by omega);have hfz:=vA HK.out.pos (by rw[Nat.mul_zero,Nat.add_zero]at ht;exact ht) HG1.out.1;exact⟨cs.set k (p0-ca-bo),congrArg (fun z:Nat=>Ending.returned (.int .u32 (z:Int))) hfz.1,dy HOw.out HL.out HOF.out (Nat.le_refl _),by rw[List.length_set];exact HL.out,HOk.out.set (by show _<4294967296;omega),hfz.2,eN HGB.out _ _⟩
    ·have hand:bits .and .u64 (IntKind.u64.wrap (IntKind.u64.wrap ((p0:Int)-(ca:Int))-(bo:Int)) / 4294967296) 1=1:=by
      obtain⟨x,b,_,e2,hxb,hbb,hx⟩:=np p0 ca bo hp0b hca hbo;rw[e2];have:b=1:=by omega
      subst this;rfl
     obtain⟨x,b,e1,_,hxb,hbb,hx⟩:=np p0 ca bo hp0b hca hbo;obtain rfl:b=1:=by omega
     have HX:=zH (And.intro e1 hx);clear e1 hx hbb
     go_wp2
     rw[HX.out.1];clear hand;obtain⟨cs',hcs'⟩:∃ cs',cs'=cs.set k x:=⟨_,rfl⟩;have HC':Hid (cs'.length=k+1/\Ok ag cs'/\cs'.getD k 0=x):=by
      subst hcs';exact⟨by rw[List.length_set];exact HL.out,HOk.out.set hxb,aW _ _ _ (by rw[HL.out];omega)⟩
     have HT':Hid (val ag us+ag ^ (k+1)=val ag cs'+g*val ag vs):=by
      subst hcs';have ht:=pJ (x:=x) (b:=1) HK.out.1 HL.out HK.out.2.1 HP.out.1 HE.out HX.out.2;rw[Nat.mul_one]at ht;exact ht
     have HF:=zH (xw HK.out.pos HT'.out (by have:=gp HC'.out.2.1;rw[HC'.out.1]at this;exact this) HG1.out.2.1);have hg1:1<=g:=HF.out.1;obtain⟨wy,hwy⟩:∃ wy,wy=wr.setCell ⟨gb,off+k,none⟩ (.int .u32 (x:Int)):=⟨_,rfl⟩;have HOy:Hid (bT .u32 82 wy B gb N c (pre++cs'++post)):=by
      subst hwy hcs';exact dy HOw.out HL.out HOF.out (Nat.le_refl _)
     have HGy:Hid (w.grownBy wy (some gb)):=by
      subst hwy;exact eN HGB.out _ _
     rw[<-hwy];clear hwy hcs' hcell hf hb
     go_loopg [140,10] k (fun gk si sc wx=>∃ (i ca:Nat) (ds:List Nat),gk+i=k/\si=.int .i64 (i:Int)/\sc=.int .u64 (ca:Int)/\ca<=1/\Hid (bT .u32 82 wx B gb N c (pre++ds++post))/\Hid (ds.length=k+1)/\Hid (Ok ag ds)/\Hid (∀ j,i<=j->ds.getD j 0=cs'.getD j 0)/\Hid (val ag (cs'.take i)+val ag (vs.take i)=val ag (ds.take i)+ag ^ i*ca)/\Hid (w.grownBy wx (some gb)))
     case atStart=>
      exact⟨0,0,cs',by omega,rfl,rfl,by omega,HOy.out,HC'.out.1,HC'.out.2.1,fun _ _=>rfl,by unfold Hid;simp,HGy.out⟩
     case round=>
      obtain⟨i,ca,ds,hgi,rfl,rfl,hca,HOz,HLz,HOkz,HJz,HEz,HGz⟩:=hrel;by_cases hi:i<k
      ·obtain⟨p,hp⟩:∃ p,cs'.getD i 0=p:=⟨_,rfl⟩;obtain⟨q,hq⟩:∃ q,vs.getD i 0=q:=⟨_,rfl⟩;have HPQ:Hid (cs'.getD i 0=p/\vs.getD i 0=q):=⟨hp,hq⟩;have hpb:p<4294967296:=by rw[<-hp];exact HC'.out.2.1.getD (by decide) _
       have hqb:q<4294967296:=by rw[<-hq];exact HK.out.2.2.2.1.getD (by decide) _
       have hcell:wr.cell? ⟨gb,off+i,none⟩=some (.int .u32 (p:Int)):=by
        rw[<-hp,<-HJz.out i (Nat.le_refl _)];exact bJ HOz.out HLz.out HOF.out (by omega)
       have hcq:wr.cell? ⟨bv,ov+i,none⟩=some (.int .u32 (q:Int)):=by
        obtain⟨b',o',e',hb',hc'⟩:=HV.out.2 (by omega)
        injection e' with e'
        injection e' with e1 e2
        subst e1 e2;rw[<-hq];exact kg HGz.out (hc' i hi) (by show bv≠gb;omega)
       have hf:=HOz.out.frozen (off+i);clear hp hq;have hi0:(0:Int)<=(i:Int):=by omega
       have hi1:(i:Int)<(k:Int):=by omega
       have hi2:(i:Int)<(k:Int)+1:=by omega
       have hw1:IntKind.u64.wrap ((p:Int)+(q:Int))=(p:Int)+(q:Int):=by rw[IntKind.wrap_u64];omega
       have hw2:IntKind.u64.wrap ((ca:Int)+((p:Int)+(q:Int)))=(ca:Int)+((p:Int)+(q:Int)):=by rw[IntKind.wrap_u64];omega
       go_wp2
       go_quiet (fail)
       clear hw1 hw2
       go_wp2
       go_roundg (gk-1)
       case measure=>omega
       case rel=>
        have el:((ca:Int)+((p:Int)+(q:Int))) % 4294967296=(((ca+p+q) % 4294967296:Nat):Int):=by omega
        have eh:((ca:Int)+((p:Int)+(q:Int))) / 4294967296=(((ca+p+q) / 4294967296:Nat):Int):=by omega
        rw[el,eh];refine⟨i+1,(ca+p+q) / 4294967296,ds.set i ((ca+p+q) % 4294967296),by omega,by go_num,rfl,by omega,dy (HOz.out.drewN _) HLz.out HOF.out (by omega),by unfold Hid;rw[List.length_set];exact HLz.out,HOkz.out.set (Nat.mod_lt _ (by decide)),?_,?_,eN (pu HGz.out _) _ _⟩
        ·intro j hj;rw[NumB.getD_set_ne _ _ _ _ (by omega)];exact HJz.out j (by omega)
        ·show _=_;rw[ax,ax,ax,bZ _ _ _ _ (Nat.le_refl _),aW _ _ _ (by rw[HLz.out];omega),HPQ.out.1,HPQ.out.2,Nat.pow_succ];exact (uR HEz.out.symm).symm
      ·obtain rfl:i=k:=by omega
       clear hgi hi;have hcell:wr.cell? ⟨gb,off+i,none⟩=some (.int .u32 (x:Int)):=by
        rw[<-HC'.out.2.2,<-HJz.out i (Nat.le_refl _)];exact bJ HOz.out HLz.out HOF.out (Nat.le_refl _)
       have hf:=HOz.out.frozen (off+i)
       go_wp2
       go_ret;have e:((x:Int)+(ca:Int)) % 4294967296=(((x+ca) % 4294967296:Nat):Int):=by omega
       rw[e];exact⟨ds.set i ((x+ca) % 4294967296),f0 (by rw[<-HF.out.2.1];omega),dy HOz.out HLz.out HOF.out (Nat.le_refl _),by rw[List.length_set];exact HLz.out,HOkz.out.set (Nat.mod_lt _ (by decide)),u7 HC'.out.1 HLz.out HK.out.2.1 HOkz.out HC'.out.2.2 hxb hca HEz.out rfl HF.out.2.2,eN HGz.out _ _⟩
theorem oT {B X n:Nat} (hB:1<B) (hn:1<=n) (h1:B ^ (n-1)<=X) (h2:X<B ^ n):(ai B X).length=n:=by
 have a:=aY hB h2;have b:=(oU (k:=n-1) (n:=X) hB).2 h1;omega
theorem gN {B X:Nat} (hB:1<B) {n:Nat} (hn:1<=n) (hl:(ai B X).length=n):(ai B X).getD (n-1) 0=X / B ^ (n-1):=by
 have h1:=bk B (ai B X) (n-1);have h2:=ap B (ai B X) (n-1);rw[List.drop_eq_nil_of_le (i:=n-1+1) (by omega),val_nil,Nat.mul_zero,Nat.add_zero]at h2;have h3:=bI (bz hB X) (j:=n-1) (by omega);rw[aR hB,h2]at h1;have e:X / B ^ (n-1)=(val B ((ai B X).take (n-1))+B ^ (n-1)*(ai B X).getD (n-1) 0) / B ^ (n-1):=congrArg (fun z=>z / B ^ (n-1)) h1;rw[e,Nat.add_mul_div_left _ _ (Nat.pow_pos (by omega)),Nat.div_eq_of_lt h3,Nat.zero_add]
theorem rr {y n t b:Nat} (hn:1<=n) (hl:(ai ag y).length=n) (ht:(ai ag y).getD (n-1) 0=t) (hb:Lib.bitLen t=b):
 1<=b/\b<=32/\(ai ag (y*2 ^ (32-b))).length=n/\2147483648<=(ai ag (y*2 ^ (32-b))).getD (n-1) 0/\ag ^ (n-1)<=y:=by
 have hy:y≠0:=by rintro rfl;rw[aP]at hl;simp at hl;omega
 have hge:=sd az hy;rw[hl]at hge;have htd:=gN az hn hl;rw[ht]at htd;have hW:ag=4294967296:=rfl;have hP:0<ag ^ (n-1):=Nat.pow_pos (by decide);have ht1:1<=t:=by rw[htd];exact Nat.div_pos hge hP
 have htb:t<4294967296:=by rw[<-ht];exact (bz az y).getD (by decide) _
 obtain⟨b1,b2,b3⟩:=Lib.bitLenAux_bounds 64 t (by omega) (by omega);have hb':Lib.bitLenAux 64 t=b:=hb;rw[hb']at b1 b2 b3;have hb32:b<=32:=by rw[<-hb];exact Lib.bitLen_le t 32 (by omega) (by omega)
 have hlo:t*ag ^ (n-1)<=y:=by rw[htd];exact Nat.div_mul_le_self _ _
 have hhi:y<(t+1)*ag ^ (n-1):=by
  rw[htd,Nat.add_mul,Nat.one_mul,Nat.mul_comm];have:=Nat.div_add_mod y (ag ^ (n-1));have:=Nat.mod_lt y hP;omega
 have e1:(2:Nat) ^ b*2 ^ (32-b)=ag:=by rw[<-Nat.pow_add,Nat.add_sub_cancel' hb32];rfl
 have e2:(2:Nat) ^ (b-1)*2 ^ (32-b)=2147483648:=by rw[<-Nat.pow_add,show b-1+(32-b)=31 from by omega]
 have hV1:2147483648*ag ^ (n-1)<=y*2 ^ (32-b):=by
  have h1:2 ^ (b-1)*ag ^ (n-1)<=y:=Nat.le_trans (Nat.mul_le_mul_right _ b2) hlo;have h2:=Nat.mul_le_mul_right (2 ^ (32-b)) h1
  rwa [Nat.mul_right_comm,e2]at h2
 have hV2:y*2 ^ (32-b)<ag ^ n:=by
  have h1:y<2 ^ b*ag ^ (n-1):=Nat.lt_of_lt_of_le hhi (Nat.mul_le_mul_right _ b3);have h2:=Nat.mul_lt_mul_of_pos_right h1 (Nat.pow_pos (n:=32-b) (show 0<2 by omega));rw[Nat.mul_right_comm,e1,Nat.mul_comm ag,<-Nat.pow_succ,show (n-1).succ=n from by omega]at h2;exact h2
 have hlen:=oT az hn (Nat.le_trans (Nat.le_mul_of_pos_left _ (by omega)) hV1) hV2;refine⟨b1,hb32,hlen,?_,hge⟩;rw[gN az hn hlen,Nat.le_div_iff_mul_le hP];exact hV1
def gS (A V:Nat) (us qs:List Nat) (j:Nat):Prop:=A=val ag us+V*(ag ^ j*val ag (qs.drop j))/\val ag (us.drop j)<V
theorem tJ {x y s la n:Nat} {us:List Nat} (hla:x<ag ^ la) (hy:ag ^ (n-1)<=y) (hn:1<=n) (hnl:n<=la+1) (hs:0<2 ^ s) (hu:val ag us=x*2 ^ s):
 gS (x*2 ^ s) (y*2 ^ s) us (List.replicate (la+1-n) 0) (la+1-n):=by
 refine⟨?_,?_⟩
 ·rw[List.drop_replicate,eJ,Nat.mul_zero,Nat.mul_zero,Nat.add_zero,hu]
 ·have h1:=bk ag us (la+1-n);rw[hu]at h1;rcases Nat.lt_or_ge (val ag (us.drop (la+1-n))) (y*2 ^ s) with h|h
  ·exact h
  ·exfalso;have h2:ag ^ (la+1-n)*(y*2 ^ s)<=x*2 ^ s:=Nat.le_trans (Nat.mul_le_mul_left _ h) (by omega);have h3:ag ^ (la+1-n)*(ag ^ (n-1)*2 ^ s)<=ag ^ (la+1-n)*(y*2 ^ s):=Nat.mul_le_mul_left _ (Nat.mul_le_mul_right _ hy);rw[<-Nat.mul_assoc,<-Nat.pow_add,show la+1-n+(n-1)=la from by omega]at h3;have h4:=Nat.mul_lt_mul_of_pos_right hla hs;omega
theorem se {A V:Nat} {us qs:List Nat} {j n:Nat} (h:gS A V us qs (j+1)) (ho:Ok ag us) (hV:V<=ag ^ n) (hjn:j+n+1<=us.length):
 val ag ((us.drop j).take (n+1))=val ag (us.drop j)/\val ag (us.drop j)<V*4294967296/\val ag (us.drop (j+n+1))=0:=by
 have h1:=ap ag us j;have h2:=ho.getD (by decide) j;have hW:ag=4294967296:=rfl;have h3:val ag (us.drop j)<V*4294967296:=by
  have h4:ag*(val ag (us.drop (j+1))+1)<=ag*V:=Nat.mul_le_mul_left _ h.2;rw[h1,Nat.mul_comm V,<-hW];rw[Nat.mul_add,Nat.mul_one]at h4;omega
 have h5:=bk ag (us.drop j) (n+1);rw[List.drop_drop,show j+(n+1)=j+n+1 from by omega]at h5;have h6:val ag (us.drop (j+n+1))=0:=by
  rcases Nat.eq_zero_or_pos (val ag (us.drop (j+n+1))) with h7|h7
  ·exact h7
  ·exfalso;have h8:ag ^ (n+1)*1<=ag ^ (n+1)*val ag (us.drop (j+n+1)):=Nat.mul_le_mul_left _ h7;have h9:V*4294967296<=ag ^ n*ag:=Nat.mul_le_mul_right _ hV;rw[<-Nat.pow_succ]at h9;have e:ag ^ n.succ=ag ^ (n+1):=rfl;omega
 rw[h6,Nat.mul_zero,Nat.add_zero]at h5;exact⟨h5.symm,h3,h6⟩
theorem vp {A V:Nat} {us qs cur':List Nat} {j n:Nat} (h:gS A V us qs (j+1)) (ho:Ok ag us) (hV0:0<V) (hV:V<=ag ^ n) (hjn:j+n+1<=us.length) (hq:j<qs.length) (hl:cur'.length=n+1)
 (hc:val ag cur'=val ag ((us.drop j).take (n+1)) % V):
 gS A V (us.take j++cur'++us.drop (j+n+1)) (qs.set j (val ag ((us.drop j).take (n+1)) / V)) j:=by
 obtain⟨e1,e2,e3⟩:=se h ho hV hjn;rw[e1]at hc ⊢;have hlt:(us.take j).length=j:=by rw[List.length_take];omega
 have hd:(us.take j++cur'++us.drop (j+n+1)).drop j=cur'++us.drop (j+n+1):=by
  rw[List.append_assoc,List.drop_append,hlt,Nat.sub_self,List.drop_zero,List.drop_of_length_le (by omega),List.nil_append]
 have hv:val ag (cur'++us.drop (j+n+1))=val ag (us.drop j) % V:=by
  rw[dg,e3,Nat.mul_zero,Nat.add_zero,hc]
 refine⟨?_,?_⟩
 ·have hqd:(qs.set j (val ag (us.drop j) / V)).drop j=val ag (us.drop j) / V::qs.drop (j+1):=by
   rw[lJ _ _ (by simpa using hq),aW _ _ _ hq]
   congr 1
   rw[List.drop_set_of_lt (by omega)]
  rw[hqd,List.append_assoc,dg,hv,hlt,val_cons];have h1:=h.1;have h2:=bk ag us j;have h3:=Nat.div_add_mod (val ag (us.drop j)) V;have h4:ag ^ j*val ag (us.drop j)=V*(ag ^ j*(val ag (us.drop j) / V))+ag ^ j*(val ag (us.drop j) % V):=by
   rw[Nat.mul_left_comm,<-Nat.mul_add,h3]
  have h5:V*(ag ^ j*(val ag (us.drop j) / V+ag*val ag (qs.drop (j+1))))=V*(ag ^ j*(val ag (us.drop j) / V))+V*(ag ^ (j+1)*val ag (qs.drop (j+1))):=by
   rw[Nat.mul_add,Nat.mul_add,Nat.pow_succ,Nat.mul_assoc]
  rw[h5];omega
 ·rw[hd,hv];exact Nat.mod_lt _ hV0
theorem xp {x y s:Nat} {us qs:List Nat} (hy:0<y) (h:gS (x*2 ^ s) (y*2 ^ s) us qs 0):val ag qs=x / y/\val ag us / 2 ^ s=x % y:=by
 obtain⟨h1,h2⟩:=h;rw[List.drop_zero]at h2;rw[List.drop_zero,Nat.pow_zero,Nat.one_mul]at h1;have hs:0<2 ^ s:=Nat.pow_pos (by omega);have e1:x / y=val ag qs:=by
  have h3:x*2 ^ s / (y*2 ^ s)=x / y:=Nat.mul_div_mul_right _ _ hs;rw[<-h3,h1,Nat.add_mul_div_left _ _ (by omega),Nat.div_eq_of_lt h2,Nat.zero_add]
 refine⟨e1.symm,?_⟩;have h4:x*2 ^ s % (y*2 ^ s)=(x % y)*2 ^ s:=Nat.mul_mod_mul_right _ _ _;have h5:x*2 ^ s % (y*2 ^ s)=val ag us:=by rw[h1,Nat.add_mul_mod_self_left,Nat.mod_eq_of_lt h2]
 rw[<-h5,h4,Nat.mul_div_cancel _ hs]
theorem bT.heap {k:IntKind} {T:TypeId} {w:World} {B g n:Nat} {xs:List Nat} (h:bT k T w B g n n xs):w.heap[g]?=some (.cells (aI k xs).toArray T (0,0)):=by
 rcases h.2.2 with ⟨h',_⟩|⟨g',cap',cur,h',hb,hh,h1,h2,h3,h4⟩
 ·simp at h'
 ·simp only[Value.slice.injEq,Option.some.injEq,Addr.mk.injEq,and_true,true_and]at h';obtain⟨rfl,rfl⟩:=h';rw[hh]
  congr 2
  rw[List.take_of_length_le (by rw[Array.length_toList];omega)]at h4;rw[<-h4]
theorem bT.of_heap {k:IntKind} {T:TypeId} {w:World} {B g n:Nat} {xs:List Nat} (h:w.heap[g]?=some (.cells (aI k xs).toArray T (0,0))) (hl:xs.length=n) (hB:B<=g) (hm:n<=maxLen):bT k T w B g n n xs:=by
 refine⟨hl,by rw[aV,hl,Nat.mul_one],.inr ⟨g,n,_,rfl,hB,h,Nat.le_refl _,hm,?_,?_⟩⟩
 ·rw[List.size_toArray,aV,hl,Nat.mul_one]
 ·rw[List.take_of_length_le (by rw[aV,hl,Nat.mul_one];exact Nat.le_refl _)]
theorem nM {k:IntKind} {xs ys:List Nat}:splice (aI k xs) 0 (aI k ys)=aI k (ys++xs.drop ys.length):=by
 unfold splice;rw[List.take_zero,List.nil_append,Nat.zero_add,aV,<-eE]
 congr 1
 unfold aI;rw[List.map_drop]
theorem jD {P:Program} {w:World} {ops:Array Oper} {rest:List Oper} {o:Oper} {a:Act} {Q:Exit->Act->World->Prop} (hgd:o.guard=none) (d s:Operand) (dT sT:TypeId)
 (ho:o.op=.call { callee:=.builtin .copy,args:=#[d,s],argTypes:=#[dT,sT] }) (elem:TypeId) (hu:P.underlying dT=some (.slice elem)) (hsz:(P.info? elem).map (·.size)=some 1)
 (k:IntKind) (T:TypeId) (B g n:Nat) (xs ys:List Nat) (A:Option Addr) (m c:Nat) (hd:a.eval d=.slice (some ⟨g,0,none⟩) n n) (hs:a.eval s=.slice A m c)
 (hown:bT k T w B g n n xs) (hr:Rd k w w.heap.size A m ys) (hmn:m<=n)
 (h:∀ w',bT k T w' B g n n (ys++xs.drop m)->Below g w w'->wpList P ops Q rest (a.put o.dst (goInt m)) w'):wpList P ops Q (o::rest) a w:=by
 have hl:=hr.1;refine wpList_copy_splice hgd d s dT sT ho elem hu hsz _ _ _ _ _ _ hd hs g 0 (aI k xs) T hown.heap (aI k ys) (by rw[aV,hl];exact (Nat.min_eq_left hmn).symm) ?_ (by rw[aV,aV,hl,hown.1];omega) eX g w (Below.refl _ _) (Nat.le_refl _) ?_
 ·intro h0;rw[aV,hl]at h0;obtain⟨b,o',e,_⟩:=hr.2 h0;subst e;exact⟨rfl,_,rfl,sJ hr⟩
 ·intro w' hw' hb;have e:(goInt (aI k ys).length)=goInt m:=by rw[aV,hl]
  rw[e];refine h w' (bT.of_heap ?_ ?_ hown.lt.1 hown.cap.2) hb
  ·have h1:=hw'.out;rw[nM,hl]at h1;exact h1
  ·rw[List.length_append,List.length_drop,hl,hown.1];omega
end Go.Proofs.YtlhojoefhannnaaGreat

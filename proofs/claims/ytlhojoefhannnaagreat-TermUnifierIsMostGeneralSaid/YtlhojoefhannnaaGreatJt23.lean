/- (*heap.unifier).step at any two terms whose variables are free. And 3 more texts. -/
import Derived.Test.YtlhojoefhannnaaGreatJt22
set_option linter.unusedVariables false
set_option linter.unusedSimpArgs false
set_option maxRecDepth 100000
set_option maxHeartbeats 51200000
namespace Go.Proofs.YtlhojoefhannnaaGreat
open Go.RowKit NumB
def rU (och:Bool) (nm B h U G c:Nat) (f:Nat->Option Tm) (L:List Tm) (W0:World) (b:Int->Option Tm) (S Mt:List (Tm×Tm)) (x y:Tm) (w':World):Prop:=
 ∃ (b':Int->Option Tm) (N Mt':List (Tm×Tm)),UV och nm B h U G c f L W0 b' (N++S) Mt' w'/\(cU och b x y=true->rV och b x y Mt b' N Mt')
theorem lm.var {nm:Nat} {L:List Tm} (hU:lm nm L) {x:Tm} (hx:x∈L) {k v:Int} {s:ByteArray} {n:LN} {args:List Tm} (e:x=.mk k v s n args) (hk:k=1):x=.var v/\∃ i:Nat,v=(i:Int)/\i<nm:=by
 have ev:x=.var v:=by subst e;exact aZ (hU.1.2 _ hx).1 hk
 obtain⟨h1,h2⟩:=hU.2 _ hx v ev;obtain⟨i,hi⟩:=Int.eq_ofNat_of_zero_le h1;exact⟨ev,i,hi,by omega⟩
theorem ws {och:Bool} {nm B h U G c:Nat} {f:Nat->Option Tm} {L:List Tm} {W0:World} {b:Int->Option Tm} {S Mt:List (Tm×Tm)} {w:World} {Bl:List Nat} (hU:lm nm L) (hnm:nm<=1000000) (hW:rQ L b) (hF:∀ c x,f c=some x->c∈Bl) (hBl:Bl.length<=1000000) (g:UV och nm B h U G c f L W0 b S Mt w) {v u:Nat} (hv:v<nm) (hu:u<nm) (hbv:b v=none) (hbu:b u=none) (hvL:Tm.var v∈L) (huL:Tm.var u∈L) (xs:ByteArray) (xn:Bool) (xA:Option Addr) (xa xc:Nat) (xB:Option Addr) (xd xe:Nat) (xX:Option Addr) (xl xq:Nat) (ys:ByteArray) (yn:Bool) (yA:Option Addr) (ya yc:Nat) (yB:Option Addr) (yd ye:Nat) (yX:Option Addr) (yl yq:Nat):
 Calls Tryz.prog 58 #[.pointer (some ⟨U,0,none⟩),.agg #[.int .i64 1,.int .i64 (v:Int),.string xs,.bool xn,.slice xA xa xc,.slice xB xd xe,.slice xX xl xq],.agg #[.int .i64 1,.int .i64 (u:Int),.string ys,.bool yn,.slice yA ya yc,.slice yB yd ye,.slice yX yl yq]] w fun e w'=>e=.returned (.bool (cU och b (.var v) (.var u)))/\rU och nm B h U G c f L W0 b S Mt (.var v) (.var u) w':=by
 have hsb:cU och b (.var v) (.var u)=true:=by unfold Tm.var;rw[gc,if_pos rfl,if_pos rfl]
 rw[hsb];have HG:=zH g;by_cases hvu:v=u
 ·subst hvu;clear g hbv hbu hU hW hF hvL huL;go_enter Tryz.func58,Tryz.ntmps58;go_wp2_with fail;go_ret;exact⟨rfl,b,[],Mt,HG.out.below (am w _ _),fun _=>.inl ⟨rfl,rfl,rfl,.inl rfl⟩⟩
 ·have hne:((v:Int)==(u:Int))=false:=beq_eq_false_iff_ne.2 (by omega);obtain⟨lo,hi,hlo,hhi,hlt,hin,hbl,hbh,hlL,hd⟩:∃ lo hi:Nat,min (v:Int) (u:Int)=(lo:Int)/\max (v:Int) (u:Int)=(hi:Int)/\lo<hi/\hi<nm/\b lo=none/\b hi=none/\Tm.var lo∈L/\(((Tm.var v)=.var hi/\Tm.var u=.var lo)\/((Tm.var v)=.var lo/\Tm.var u=.var hi)):=by
   by_cases h:v<u
   ·exact⟨v,u,by omega,by omega,h,hu,hbv,hbu,hvL,.inr ⟨rfl,rfl⟩⟩
   ·exact⟨u,v,by omega,by omega,by omega,hv,hbu,hbv,huL,.inl ⟨rfl,rfl⟩⟩
  have HV:Hid (∀ W,Below w.heap.size w W->Calls Tryz.prog 82 #[.pointer (some ⟨U,0,none⟩),.int .i64 (v:Int),.int .i64 (u:Int)] W fun e w'=>e=.returned (.bool true)/\Hid (rU och nm B h U G c f L W0 b S Mt (.var v) (.var u) w')):=fun W hWb=>by
   refine (nS hU hnm hW hF hBl (HG.out.below hWb) hlo hhi hlt hin hbl hbh hlL).mono ?_;rintro e w' ⟨rfl,q⟩;refine⟨rfl,_,[],Mt,q,fun _=>.inr (.inl ⟨hi,.var lo,hbh,hd,fun _=>kE hbl (by omega),fun z e=>?_,rfl,rfl,rfl⟩)⟩;have:=gD e;omega
  clear g hbv hbu hU hW hF hvL huL hlo hhi hbl hbh hlL hd;go_enter Tryz.func58,Tryz.ntmps58;go_wp2_with fail;refine (HV.out _ (am w _ _)).mono ?_;rintro e w1 ⟨rfl,HF⟩;go_wp2_with fail;go_ret;exact⟨rfl,HF.out⟩
theorem uC {och:Bool} {nm B h U G c:Nat} {f:Nat->Option Tm} {L:List Tm} {W0:World} {b:Int->Option Tm} {S Mt:List (Tm×Tm)} {w:World} {Bl:List Nat} (hU:lm nm L) (hnm:nm<=1000000) (hW:rQ L b) (hF:∀ c x,f c=some x->c∈Bl) (hBl:Bl.length<=1000000) (g:UV och nm B h U G c f L W0 b S Mt w) {v:Nat} (hv:v<nm) (hbv:b v=none) {y:Tm} {cy:List Value} (hy:cw (PT dQ W0) f w y cy) (hyL:y∈L) (hny:∀ u,y≠.var u) (xs:ByteArray) (xn:Bool) (xA:Option Addr) (xa xc:Nat) (xB:Option Addr) (xd xe:Nat) (xX:Option Addr) (xl xq:Nat):
 Calls Tryz.prog 58 #[.pointer (some ⟨U,0,none⟩),.agg #[.int .i64 1,.int .i64 (v:Int),.string xs,.bool xn,.slice xA xa xc,.slice xB xd xe,.slice xX xl xq],.agg cy.toArray] w fun e w'=>e=.returned (.bool (cU och b (.var v) y))/\rU och nm B h U G c f L W0 b S Mt (.var v) y w':=by
 obtain⟨yk,yv,ys,yn,yA,ya,yc,yB,yd,ye,yX,yl,yq,rfl⟩:=hy.form;obtain⟨k_,v_,s_,n_,args,A_,B_,Ar,cp,cx,hxx,hcs,-⟩:=hy.inv;simp only[List.cons.injEq,Value.int.injEq,true_and]at hcs;obtain⟨rfl,-⟩:=hcs;have hk:yk≠1:=fun e=>hny v_ (by subst hxx;exact aZ (hU.1.2 _ hyL).1 e);have hsb:cU och b (.var v) y=!(och&&dH b v y):=by subst hxx;unfold Tm.var;rw[gc,if_pos rfl,if_neg hk]
 have HG:=zH g;have HV:Hid (∀ W,Below w.heap.size w W->Calls Tryz.prog 83 #[.pointer (some ⟨U,0,none⟩),.int .i64 (v:Int),.agg #[.int .i64 yk,.int .i64 yv,.string ys,.bool yn,.slice yA ya yc,.slice yB yd ye,.slice yX yl yq]] W fun e w'=>e=.returned (.bool (cU och b (.var v) y))/\Hid (rU och nm B h U G c f L W0 b S Mt (.var v) y w')):=fun W hWb=>by
  refine (mQ hU hnm hW hF hBl (HG.out.below hWb) hv hbv hyL (hy.stay (.of_below hWb)) fun z e=>absurd e (hny z)).mono ?_;rintro e w' ⟨rfl,q1,q2⟩;refine⟨by rw[hsb],?_⟩;cases ho:och&&dH b v y with
  |true=>exact⟨b,[],Mt,q1 ho,fun hs=>by rw[hsb,ho]at hs;cases hs⟩
  |false=>
   refine⟨_,[],Mt,q2 ho,fun hs=>.inr (.inl ⟨v,y,hbv,.inl ⟨rfl,rfl⟩,fun e1 e2=>?_,fun z e=>absurd e (hny z),rfl,rfl,rfl⟩)⟩;rw[e1,kC e2]at ho;cases ho
 have hkb:(yk==1)=false:=beq_eq_false_iff_ne.2 hk;clear g hbv hU hW hF hy hyL hny hxx hsb;generalize cU och b (.var v) y=r at*;go_enter Tryz.func58,Tryz.ntmps58;go_wp2_with fail;refine (HV.out _ (am w _ _)).mono ?_;rintro e w1 ⟨rfl,HF⟩;go_wp2_with fail;go_ret;exact⟨rfl,HF.out⟩
theorem rG {och:Bool} {nm B h U G c:Nat} {f:Nat->Option Tm} {L:List Tm} {W0:World} {b:Int->Option Tm} {S Mt:List (Tm×Tm)} {w:World} {Bl:List Nat} (hU:lm nm L) (hnm:nm<=1000000) (hW:rQ L b) (hF:∀ c x,f c=some x->c∈Bl) (hBl:Bl.length<=1000000) (g:UV och nm B h U G c f L W0 b S Mt w) {v:Nat} (hv:v<nm) (hbv:b v=none) {x:Tm} {cx:List Value} (hx:cw (PT dQ W0) f w x cx) (hxL:x∈L) (hnx:∀ u,x≠.var u) (ys:ByteArray) (yn:Bool) (yA:Option Addr) (ya yc:Nat) (yB:Option Addr) (yd ye:Nat) (yX:Option Addr) (yl yq:Nat):
 Calls Tryz.prog 58 #[.pointer (some ⟨U,0,none⟩),.agg cx.toArray,.agg #[.int .i64 1,.int .i64 (v:Int),.string ys,.bool yn,.slice yA ya yc,.slice yB yd ye,.slice yX yl yq]] w fun e w'=>e=.returned (.bool (cU och b x (.var v)))/\rU och nm B h U G c f L W0 b S Mt x (.var v) w':=by
 obtain⟨xk,xv,xs,xn,xA,xa,xc,xB,xd,xe,xX,xl,xq,rfl⟩:=hx.form;obtain⟨k_,v_,s_,n_,args,A_,B_,Ar,cp,cx,hxx,hcs,-⟩:=hx.inv;simp only[List.cons.injEq,Value.int.injEq,true_and]at hcs;obtain⟨rfl,-⟩:=hcs;have hk:xk≠1:=fun e=>hnx v_ (by subst hxx;exact aZ (hU.1.2 _ hxL).1 e);have hsb:cU och b x (.var v)=!(och&&dH b v x):=by subst hxx;unfold Tm.var;rw[gc,if_neg hk,if_pos rfl]
 have HG:=zH g;have HV:Hid (∀ W,Below w.heap.size w W->Calls Tryz.prog 83 #[.pointer (some ⟨U,0,none⟩),.int .i64 (v:Int),.agg #[.int .i64 xk,.int .i64 xv,.string xs,.bool xn,.slice xA xa xc,.slice xB xd xe,.slice xX xl xq]] W fun e w'=>e=.returned (.bool (cU och b x (.var v)))/\Hid (rU och nm B h U G c f L W0 b S Mt x (.var v) w')):=fun W hWb=>by
  refine (mQ hU hnm hW hF hBl (HG.out.below hWb) hv hbv hxL (hx.stay (.of_below hWb)) fun z e=>absurd e (hnx z)).mono ?_;rintro e w' ⟨rfl,q1,q2⟩;refine⟨by rw[hsb],?_⟩;cases ho:och&&dH b v x with
  |true=>exact⟨b,[],Mt,q1 ho,fun hs=>by rw[hsb,ho]at hs;cases hs⟩
  |false=>
   refine⟨_,[],Mt,q2 ho,fun hs=>.inr (.inl ⟨v,x,hbv,.inr ⟨rfl,rfl⟩,fun e1 e2=>?_,fun z e=>absurd e (hnx z),rfl,rfl,rfl⟩)⟩;rw[e1,kC e2]at ho;cases ho
 have hkb:(xk==1)=false:=beq_eq_false_iff_ne.2 hk;clear g hbv hU hW hF hx hxL hnx hxx hsb;generalize cU och b x (.var v)=r at*;go_enter Tryz.func58,Tryz.ntmps58;go_wp2_with fail;refine (HV.out _ (am w _ _)).mono ?_;rintro e w1 ⟨rfl,HF⟩;go_wp2_with fail;go_ret;exact⟨rfl,HF.out⟩
theorem rU.same {och:Bool} {nm B h U G c:Nat} {f:Nat->Option Tm} {L:List Tm} {W0:World} {b:Int->Option Tm} {S Mt:List (Tm×Tm)} {w:World} (g:UV och nm B h U G c f L W0 b S Mt w) {x y:Tm} {w':World} (hb:Below w.heap.size w w') (hq:cU och b x y=true->x=y\/(x,y)∈Mt\/((∀ v,x≠.var v)/\x.args=[]/\x.hd y=true)):rU och nm B h U G c f L W0 b S Mt x y w':=
 ⟨b,[],Mt,g.below hb,fun q=>.inl ⟨rfl,rfl,rfl,hq q⟩⟩
theorem ql {och:Bool} {b:Int->Option Tm} {x y:Tm} (hx:x.fine) (hy:y.fine) (hnx:∀ u,x≠.var u) (hny:∀ u,y≠.var u):cU och b x y=x.hd y:=by
 obtain⟨k,v,s,n,args⟩:=x;obtain⟨k2,v2,s2,n2,args2⟩:=y;rw[gc,if_neg (fun e=>hnx v (aZ hx e)),if_neg (fun e=>hny v2 (aZ hy e))]
theorem yK {k v:Int} {s:ByteArray} {n:LN} {args:List Tm} {k2 v2:Int} {s2:ByteArray} {n2:LN} {args2:List Tm}:(Tm.mk k v s n args).hd (.mk k2 v2 s2 n2 args2)=decide (k=k2/\s.toList=s2.toList/\args.length=args2.length/\(k=2->gO n n2=true)):=rfl
theorem uz {och:Bool} {nm B h U G c:Nat} {f:Nat->Option Tm} {L:List Tm} {W0:World} {b:Int->Option Tm} {S Mt:List (Tm×Tm)} {w:World} (hU:lm nm L) (g:UV och nm B h U G c f L W0 b S Mt w) {x y:Tm} {cx cy:List Value} (hx:cw (PT dQ W0) f w x cx) (hy:cw (PT dQ W0) f w y cy) (hxL:x∈L) (hyL:y∈L) (hnx:∀ u,x≠.var u) (hny:∀ u,y≠.var u) (hfl:x.args=[]\/x.hd y=false):
 Calls Tryz.prog 58 #[.pointer (some ⟨U,0,none⟩),.agg cx.toArray,.agg cy.toArray] w fun e w'=>e=.returned (.bool (cU och b x y))/\rU och nm B h U G c f L W0 b S Mt x y w':=by
 have fx:=(hU.1.2 _ hxL).1;have fy:=(hU.1.2 _ hyL).1;have hsb:=ql (och:=och) (b:=b) fx fy hnx hny;rw[hsb];have HFIN:Hid (∀ w',Below w.heap.size w w'->rU och nm B h U G c f L W0 b S Mt x y w'):=fun w' hb=>rU.same g hb fun q=>by
  rw[hsb]at q;rcases hfl with h1|h1
  ·exact .inr (.inr ⟨hnx,h1,q⟩)
  ·rw[h1]at q;cases q
 have HNX:=zH hnx;have HNY:=zH hny;have HFX:=zH fx;have HFY:=zH fy;have HFL:=zH hfl;clear g hsb hfl hnx hny hU hxL hyL fx fy;cases hx with
 |mk k v s n args A C Ar cap cs hk hv hs hA hC hn hcap hm hr ha=>
 cases hy with
 |mk k2 v2 s2 n2 args2 A2 C2 Ar2 cap2 cs2 hk2 hv2 hs2 hA2 hC2 hn2 hcap2 hm2 hr2 ha2=>
 have dC:Hid (∀ W,Below w.heap.size w W->Calls Tryz.prog 84 #[.agg #[.bool n.neg,A,C],.agg #[.bool n2.neg,A2,C2]] W fun e w'=>e=.returned (.bool (gO n n2))/\Hid (Below w.heap.size w w')):=fun W hW=>by
  refine (kN n n2 A C A2 C2 hA.sl hC.sl hA2.sl hC2.sl W hW).mono ?_;rintro e w' ⟨rfl,hb⟩;exact⟨rfl,hW.trans (hb.mono hW.size)⟩
 obtain⟨A_,q1,rfl,-⟩:=hA;obtain⟨C_,q2,rfl,-⟩:=hC;obtain⟨A2_,q3,rfl,-⟩:=hA2;obtain⟨C2_,q4,rfl,-⟩:=hC2;clear hk hv hs hn hcap hm hr ha hk2 hv2 hs2 hn2 hcap2 hm2 hr2 ha2;have hk1:k≠1:=fun e=>HNX.out v (aZ HFX.out e);have hk21:k2≠1:=fun e=>HNY.out v2 (aZ HFY.out e);have hb1:(k==1)=false:=beq_eq_false_iff_ne.2 hk1;have hb2:(k2==1)=false:=beq_eq_false_iff_ne.2 hk21;have HHD:=zH (yK (k:=k) (v:=v) (s:=s) (n:=n) (args:=args) (k2:=k2) (v2:=v2) (s2:=s2) (n2:=n2) (args2:=args2));have HBP:=zH (am w (.cells #[.int .i64 k,.int .i64 v,.string s,.bool n.neg,.slice A_ n.num.length q1,.slice C_ n.den.length q2,.slice Ar args.length cap] 27) (.cells #[.int .i64 k2,.int .i64 v2,.string s2,.bool n2.neg,.slice A2_ n2.num.length q3,.slice C2_ n2.den.length q4,.slice Ar2 args2.length cap2] 27));clear HNX HNY;generalize hr:(Tm.mk k v s n args).hd (.mk k2 v2 s2 n2 args2)=r at*;have HR:=zH hr;clear hr;by_cases hkk:k=k2
 ·subst hkk;by_cases hk2':k=2
  ·subst hk2';have e:r=gO n n2:=by
    rw[HHD.out];have h1:=HFX.out;have h2:=HFY.out;rw[Tm.fine]at h1 h2;have r1:=(cN h1.2.1 (by decide)).2.1 rfl;have r2:=(cN h2.2.1 (by decide)).2.1 rfl;rw[r1.1,r2.1,r1.2.1,r2.2.1];simp
   subst e;generalize gO n n2=r at*;clear HHD HR HFX HFY HFL;go_enter Tryz.func58,Tryz.ntmps58;go_wp2_with fail;refine (dC.out _ HBP.out).mono ?_;rintro e w1 ⟨rfl,HF⟩;go_wp2_with fail;go_ret;exact⟨rfl,HFIN.out _ HF.out⟩
  ·have hb3:(k==2)=false:=beq_eq_false_iff_ne.2 hk2';by_cases hk5:k=5
   ·subst hk5;have hrf:r=false:=by
     rcases HFL.out with h|h
     ·have h1:=HFX.out;rw[Tm.fine]at h1;have h2:args=[]:=h;rw[h2]at h1;rcases aj h1.2.1 with ⟨h,_⟩|⟨_,_,_,_,h|h|h|h⟩<;>simp at h
     ·exact h
    subst hrf;have hd:=HHD.out;clear HHD HR HFX HFY HFL dC;by_cases hss:s.toList=s2.toList
    ·have hll:args.length≠args2.length:=fun e=>by
      have:=of_decide_eq_false hd.symm;exact this ⟨rfl,hss,e,fun h=>absurd h (by decide)⟩
     have hst:(s.toList==s2.toList)=true:=by rw[hss];exact beq_self_eq_true _
     have hlf:((args.length:Int)==(args2.length:Int))=false:=beq_eq_false_iff_ne.2 (by omega);clear hd hss hll;go_enter Tryz.func58,Tryz.ntmps58;go_wp2_with fail;go_ret;exact⟨rfl,HFIN.out _ HBP.out⟩
    ·have hsf:(s.toList==s2.toList)=false:=beq_eq_false_iff_ne.2 hss;clear hd hss;go_enter Tryz.func58,Tryz.ntmps58;go_wp2_with fail;go_ret;exact⟨rfl,HFIN.out _ HBP.out⟩
   ·have hb5:(k==5)=false:=beq_eq_false_iff_ne.2 hk5;have e:r=(s.toList==s2.toList):=by
     rw[HHD.out,eL HFX.out hk5,eL HFY.out hk5,Bool.eq_iff_iff,decide_eq_true_iff,beq_iff_eq];exact⟨fun h=>h.2.1,fun h=>⟨rfl,h,rfl,fun h=>absurd h hk2'⟩⟩
    subst e;clear HHD HR HFX HFY HFL dC;go_enter Tryz.func58,Tryz.ntmps58;go_wp2_with fail;go_ret;exact⟨rfl,HFIN.out _ HBP.out⟩
 ·have hbk:(k==k2)=false:=beq_eq_false_iff_ne.2 hkk;have hrf:r=false:=by
   rw[HHD.out];exact decide_eq_false fun h=>hkk h.1
  subst hrf;clear HHD HR HFX HFY HFL dC;go_enter Tryz.func58,Tryz.ntmps58;go_wp2_with fail;go_ret;exact⟨rfl,HFIN.out _ HBP.out⟩
theorem tZ (p m1 m2 n:Nat) (k v:Int) (s:ByteArray) (ng:Bool) (A1:Option Addr) (n1 c1:Nat) (B1:Option Addr) (q1 d1:Nat) (X:Option Addr) (xl xc:Nat) (hk:k=1\/k=3) (hv:an v) (hs:s.size<=1000) (w:World) (h:aE w p m1 m2 n) (hn:n<=1000):
 Calls Tryz.prog 116 #[.pointer (some ⟨p,0,none⟩),.agg #[.int .i64 k,.int .i64 v,.string s,.bool ng,.slice A1 n1 c1,.slice B1 q1 d1,.slice X xl xc]] w fun e w'=>∃ i,e=.returned (.int .i64 i)/\an i/\aE w' p m1 m2 (n+1)/\ah (KN m1 m2) w w':=by
 have HN:=zH h;have HV:=zH hv;have HK:=zH hk;have HBT:=zH (af.new w 27 #[.int .i64 k,.int .i64 v,.string s,.bool ng,.slice A1 n1 c1,.slice B1 q1 d1,.slice X xl xc]);have HB0:=zH (BD.new (w.alloc (.cells #[.int .i64 k,.int .i64 v,.string s,.bool ng,.slice A1 n1 c1,.slice B1 q1 d1,.slice X xl xc] 27)));rw[show (w.alloc (.cells #[.int .i64 k,.int .i64 v,.string s,.bool ng,.slice A1 n1 c1,.slice B1 q1 d1,.slice X xl xc] 27)).heap.size=w.heap.size+1 by simp]at HB0;have HW0:Hid (Below w.heap.size w ((w.alloc (.cells #[.int .i64 k,.int .i64 v,.string s,.bool ng,.slice A1 n1 c1,.slice B1 q1 d1,.slice X xl xc] 27)).alloc (.cells #[.pointer none,.slice none 0 0] 189))):=am w _ _;have k5:(k==5)=false:=beq_eq_false_iff_ne.2 (by omega);have k2:(k==2)=false:=beq_eq_false_iff_ne.2 (by omega);have HK8:Hid (0<=k % 256/\k % 256<=255):=⟨by omega,by omega⟩;clear h hv hk;go_enter Tryz.func116,Tryz.ntmps116;go_wp2_with fail;have HT0:=zH (HBT.out.alloc (.cells #[.pointer none,.slice none 0 0] 189));refine (eK (w.heap.size+1) (w.heap.size+1) 0 _ _ HB0.out HK8.out.1 HK8.out.2 (by omega) (by simp)).mono ?_;rintro e y1 ⟨rfl,hd,hb,ho⟩;have HD1:=zH hd;have HN1:=zH ((HN.out.below HW0.out).others ho HB0.out);have HT1:=zH (HT0.out.others (by decide) (by decide) ho HB0.out);have HW1:Hid (w.heap.size+1<=y1.heap.size/\ah (KN m1 m2) w y1):=⟨Nat.le_trans (by simp) hb.size,(ah.of_below HW0.out).thenB hb (by omega)⟩;clear hd hb ho;have t0:=HT1.out.cell 0;have t1:=HT1.out.cell 1;have t2:=HT1.out.cell 2;simp only[L3]at t0 t1 t2;rcases HK.out with rfl|rfl
 ·go_wp2_with fail;refine (nw (w.heap.size+1) (w.heap.size+1) 1 v HV.out y1 HD1.out (by omega) HW1.out.1).mono ?_;rintro e y2 ⟨rfl,hd,hb,ho⟩;have HD2:=zH (hd.le (by omega:_<=2000));have HN2:=zH (HN1.out.others ho HD1.out);have HT2:=zH (HT1.out.others (by decide) (by decide) ho HD1.out);have HW2:Hid (w.heap.size+1<=y2.heap.size/\ah (KN m1 m2) w y2):=⟨Nat.le_trans HW1.out.1 hb.size,HW1.out.2.thenB hb (by omega)⟩;clear hd hb ho t0 t1 t2;go_wp2_with fail;have hS2:y2.drew.cell? ⟨p,0,none⟩=some (.map (some m1))/\y2.drew.cell? ⟨p,1,none⟩=some (.map (some m2)):=HN2.out.drew.nsc;have HSTR:=zH (kP (w:=w) HD2.out.drew HN2.out.drew HT2.out.drew HW2.out.1 HW2.out.2.drew (by omega))
  go_region_held3 (fun w'=>w'.cell? ⟨p,0,none⟩=some (.map (some m1))/\w'.cell? ⟨p,1,none⟩=some (.map (some m2)))
   (first|assumption|(go_keep;done))
   (first
    |(go_at_call 146;(with_reducible refine HSTR.out.mono ?_);rintro e y3 ⟨s3,i3,ok3,rfl,hi3,hl3,HD3,HN3,HT3,HW3,hS3⟩))
  clear hS2 HSTR hl3 hS3;have t0:=HT3.out.cell 0;simp only[L3]at t0;cases ok3 with
  |true=>
   go_wp2_with fail;go_ret;exact⟨i3,rfl,hi3.out,HN3.out.mono (by omega),HW3.out.2⟩
  |false=>
   obtain⟨es,cl,hm,hms⟩:=HN3.out.len;obtain⟨e0,e1⟩:=HN3.out.nsc;have hlen:(Builtin.len_ #[114] 3 #[.map (some m2)]).run Tryz.prog y3=.ok (.int .i64 (es.size:Int)) y3:=run_len_map y3 _ _ m2 es cl (by kernel_rfl) hm;go_wp2_with fail;have HI4:Hid (an (es.size:Int)):=⟨by omega,by omega⟩;have hS4:y3.drew.cell? ⟨p,0,none⟩=some (.map (some m1))/\y3.drew.cell? ⟨p,1,none⟩=some (.map (some m2)):=HN3.out.drew.nsc;have HSTR:=zH (nO (w:=w) HD3.out.drew HN3.out.drew HT3.out.drew HW3.out.1 HW3.out.2.drew (by omega) HI4.out);clear hm hms e0 e1 t0 hlen
   go_region_held3 (fun w'=>w'.cell? ⟨p,0,none⟩=some (.map (some m1))/\w'.cell? ⟨p,1,none⟩=some (.map (some m2)))
    (first|assumption|(go_keep;done))
    (first
     |(go_at_call 146;(with_reducible refine HSTR.out.mono ?_);rintro e y5 ⟨s5,y4,rfl,hl5,HD4,HN4,HT4,HW4,hS5,hS6⟩))
   clear hS4 HSTR hl5 hS5 hS6;have t0:=HT4.out.cell 0;simp only[L3]at t0;go_wp2_with fail;go_ret;exact⟨_,rfl,HI4.out,HN4.out.mono (by omega),HW4.out.2⟩
 ·go_wp2_with fail;refine (fE (w.heap.size+1) (w.heap.size+1) 1 s y1 HD1.out (by omega) (by omega) HW1.out.1).mono ?_;rintro e y2 ⟨rfl,hd,hb,ho⟩;have HD2:=zH (hd.le (by omega:_<=2000));have HN2:=zH (HN1.out.others ho HD1.out);have HT2:=zH (HT1.out.others (by decide) (by decide) ho HD1.out);have HW2:Hid (w.heap.size+1<=y2.heap.size/\ah (KN m1 m2) w y2):=⟨Nat.le_trans HW1.out.1 hb.size,HW1.out.2.thenB hb (by omega)⟩;clear hd hb ho t0 t1 t2;go_wp2_with fail;have hS2:y2.drew.cell? ⟨p,0,none⟩=some (.map (some m1))/\y2.drew.cell? ⟨p,1,none⟩=some (.map (some m2)):=HN2.out.drew.nsc;have HSTR:=zH (kP (w:=w) HD2.out.drew HN2.out.drew HT2.out.drew HW2.out.1 HW2.out.2.drew (by omega))
  go_region_held3 (fun w'=>w'.cell? ⟨p,0,none⟩=some (.map (some m1))/\w'.cell? ⟨p,1,none⟩=some (.map (some m2)))
   (first|assumption|(go_keep;done))
   (first
    |(go_at_call 146;(with_reducible refine HSTR.out.mono ?_);rintro e y3 ⟨s3,i3,ok3,rfl,hi3,hl3,HD3,HN3,HT3,HW3,hS3⟩))
  clear hS2 HSTR hl3 hS3;have t0:=HT3.out.cell 0;simp only[L3]at t0;cases ok3 with
  |true=>
   go_wp2_with fail;go_ret;exact⟨i3,rfl,hi3.out,HN3.out.mono (by omega),HW3.out.2⟩
  |false=>
   obtain⟨es,cl,hm,hms⟩:=HN3.out.len;obtain⟨e0,e1⟩:=HN3.out.nsc;have hlen:(Builtin.len_ #[114] 3 #[.map (some m2)]).run Tryz.prog y3=.ok (.int .i64 (es.size:Int)) y3:=run_len_map y3 _ _ m2 es cl (by kernel_rfl) hm;go_wp2_with fail;have HI4:Hid (an (es.size:Int)):=⟨by omega,by omega⟩;have hS4:y3.drew.cell? ⟨p,0,none⟩=some (.map (some m1))/\y3.drew.cell? ⟨p,1,none⟩=some (.map (some m2)):=HN3.out.drew.nsc;have HSTR:=zH (nO (w:=w) HD3.out.drew HN3.out.drew HT3.out.drew HW3.out.1 HW3.out.2.drew (by omega) HI4.out);clear hm hms e0 e1 t0 hlen
   go_region_held3 (fun w'=>w'.cell? ⟨p,0,none⟩=some (.map (some m1))/\w'.cell? ⟨p,1,none⟩=some (.map (some m2)))
    (first|assumption|(go_keep;done))
    (first
     |(go_at_call 146;(with_reducible refine HSTR.out.mono ?_);rintro e y5 ⟨s5,y4,rfl,hl5,HD4,HN4,HT4,HW4,hS5,hS6⟩))
   clear hS4 HSTR hl5 hS5 hS6;have t0:=HT4.out.cell 0;simp only[L3]at t0;go_wp2_with fail;go_ret;exact⟨_,rfl,HI4.out,HN4.out.mono (by omega),HW4.out.2⟩
def dh (arr:Array Value) (ao l:Nat):Prop:=∀ j,j<l->∃ (k v:Int) (s:ByteArray) (ng:Bool) (A1:Option Addr) (n1 c1:Nat) (B1:Option Addr) (q1 d1:Nat) (X:Option Addr) (xl xc:Nat),(k=1\/k=3)/\an v/\s.size<=1000/\arr[ao+j*7]?=some (.int .i64 k)/\arr[ao+j*7+1]?=some (.int .i64 v)/\arr[ao+j*7+2]?=some (.string s)/\arr[ao+j*7+3]?=some (.bool ng)/\arr[ao+j*7+4]?=some (.slice A1 n1 c1)/\arr[ao+j*7+5]?=some (.slice B1 q1 d1)/\arr[ao+j*7+6]?=some (.slice X xl xc)
theorem mh (p m1 m2 n:Nat) (v:Int) (s:ByteArray) (ng:Bool) (A1:Option Addr) (n1 c1:Nat) (B1:Option Addr) (q1 d1:Nat) (ab ao l xc:Nat) (arr:Array Value) (hl:0<l) (hl2:l<=100) (hv:an v) (hs:s.size<=1000) (w:World) (h:aE w p m1 m2 n) (hn:n<=500) (ha:af w ab 27 arr) (hrow:dh arr ao l):
 Calls Tryz.prog 116 #[.pointer (some ⟨p,0,none⟩),.agg #[.int .i64 5,.int .i64 v,.string s,.bool ng,.slice A1 n1 c1,.slice B1 q1 d1,.slice (some ⟨ab,ao,none⟩) l xc]] w fun e w'=>∃ i,e=.returned (.int .i64 i)/\an i/\aE w' p m1 m2 (n+l+2)/\ah (KN m1 m2) w w':=by
 have HN:=zH h;have HV:=zH hv;have HA0:=zH ha;have HROW:=zH hrow;have HBT:=zH (af.new w 27 #[.int .i64 5,.int .i64 v,.string s,.bool ng,.slice A1 n1 c1,.slice B1 q1 d1,.slice (some ⟨ab,ao,none⟩) l xc]);have HWT:Hid (Below w.heap.size w (w.alloc (.cells #[.int .i64 5,.int .i64 v,.string s,.bool ng,.slice A1 n1 c1,.slice B1 q1 d1,.slice (some ⟨ab,ao,none⟩) l xc] 27)).drew):=(I w _).drew;have HNT:Hid (aE (w.alloc (.cells #[.int .i64 5,.int .i64 v,.string s,.bool ng,.slice A1 n1 c1,.slice B1 q1 d1,.slice (some ⟨ab,ao,none⟩) l xc] 27)).drew p m1 m2 n):=(HN.out.below (I w (.cells #[.int .i64 5,.int .i64 v,.string s,.bool ng,.slice A1 n1 c1,.slice B1 q1 d1,.slice (some ⟨ab,ao,none⟩) l xc] 27))).drew;have hS0:(w.alloc (.cells #[.int .i64 5,.int .i64 v,.string s,.bool ng,.slice A1 n1 c1,.slice B1 q1 d1,.slice (some ⟨ab,ao,none⟩) l xc] 27)).drew.cell? ⟨p,0,none⟩=some (.map (some m1))/\(w.alloc (.cells #[.int .i64 5,.int .i64 v,.string s,.bool ng,.slice A1 n1 c1,.slice B1 q1 d1,.slice (some ⟨ab,ao,none⟩) l xc] 27)).drew.cell? ⟨w.heap.size,0,none⟩=some (.int .i64 5)/\(w.alloc (.cells #[.int .i64 5,.int .i64 v,.string s,.bool ng,.slice A1 n1 c1,.slice B1 q1 d1,.slice (some ⟨ab,ao,none⟩) l xc] 27)).drew.cell? ⟨w.heap.size,1,none⟩=some (.int .i64 v)/\(w.alloc (.cells #[.int .i64 5,.int .i64 v,.string s,.bool ng,.slice A1 n1 c1,.slice B1 q1 d1,.slice (some ⟨ab,ao,none⟩) l xc] 27)).drew.cell? ⟨w.heap.size,2,none⟩=some (.string s)/\(w.alloc (.cells #[.int .i64 5,.int .i64 v,.string s,.bool ng,.slice A1 n1 c1,.slice B1 q1 d1,.slice (some ⟨ab,ao,none⟩) l xc] 27)).drew.cell? ⟨w.heap.size,3,none⟩=some (.bool ng)/\(w.alloc (.cells #[.int .i64 5,.int .i64 v,.string s,.bool ng,.slice A1 n1 c1,.slice B1 q1 d1,.slice (some ⟨ab,ao,none⟩) l xc] 27)).drew.cell? ⟨w.heap.size,4,none⟩=some (.slice A1 n1 c1)/\(w.alloc (.cells #[.int .i64 5,.int .i64 v,.string s,.bool ng,.slice A1 n1 c1,.slice B1 q1 d1,.slice (some ⟨ab,ao,none⟩) l xc] 27)).drew.cell? ⟨w.heap.size,5,none⟩=some (.slice B1 q1 d1)/\(w.alloc (.cells #[.int .i64 5,.int .i64 v,.string s,.bool ng,.slice A1 n1 c1,.slice B1 q1 d1,.slice (some ⟨ab,ao,none⟩) l xc] 27)).drew.cell? ⟨w.heap.size,6,none⟩=some (.slice (some ⟨ab,ao,none⟩) l xc):=⟨HNT.out.nsc.1,HBT.out.cell 0,HBT.out.cell 1,HBT.out.cell 2,HBT.out.cell 3,HBT.out.cell 4,HBT.out.cell 5,HBT.out.cell 6⟩;have HAT0:=zH (wU (w:=w) 5 v s ng A1 n1 c1 B1 q1 d1 ab ao l xc hl HNT.out HBT.out.drew (HA0.out.to HWT.out) (ah.of_below HWT.out));clear h hv ha hrow;go_enter Tryz.func116,Tryz.ntmps116;go_wp2_with fail
 go_region_held3 (fun w'=>w'.cell? ⟨p,0,none⟩=some (.map (some m1))/\w'.cell? ⟨w.heap.size,0,none⟩=some (.int .i64 5)/\w'.cell? ⟨w.heap.size,1,none⟩=some (.int .i64 v)/\w'.cell? ⟨w.heap.size,2,none⟩=some (.string s)/\w'.cell? ⟨w.heap.size,3,none⟩=some (.bool ng)/\w'.cell? ⟨w.heap.size,4,none⟩=some (.slice A1 n1 c1)/\w'.cell? ⟨w.heap.size,5,none⟩=some (.slice B1 q1 d1)/\w'.cell? ⟨w.heap.size,6,none⟩=some (.slice (some ⟨ab,ao,none⟩) l xc))
  (first|assumption|(go_keep;done))
  (first
   |(go_at_call 63;(with_reducible refine HAT0.out.mono ?_);rintro e z0 ⟨i0,ok0,rfl,hi0,hl0,HNZ,HTZ,HAZ,HWZ,hS1⟩))
 clear hS0 HAT0 hl0 hS1;obtain⟨t0,t1,t2,t3,t4,t5,t6⟩:=HTZ.out.s7;cases ok0 with
 |true=>
  go_wp2_with fail;go_ret;exact⟨_,rfl,hi0.out,HNZ.out.mono (by omega),HWZ.out⟩
 |false=>
 have HB0:=zH (BD.new z0);have HW0:Hid (Below z0.heap.size z0 (z0.alloc (.cells #[.pointer none,.slice none 0 0] 189))):=I z0 _;have HT0:=zH (HTZ.out.to HW0.out);have HZ0:Hid (w.heap.size<=z0.heap.size):=HWZ.out.size;clear t0 t1 t2 t3 t4 t5 t6;obtain⟨t0,t1,t2,t3,t4,t5,t6⟩:=HT0.out.s7;go_wp2_with fail;refine (eK z0.heap.size z0.heap.size 0 5 _ HB0.out (by omega) (by omega) (by omega) (by simp)).mono ?_;rintro e y1 ⟨rfl,hd,hb,ho⟩;have HD1:=zH hd;have HN1:=zH ((HNZ.out.below HW0.out).others ho HB0.out);have HT1:=zH (HT0.out.others (by decide) (by decide) ho HB0.out);have HW1:Hid (z0.heap.size<=y1.heap.size/\ah (KN m1 m2) w y1):=⟨Nat.le_trans (by simp) hb.size,(HWZ.out.trans (ah.of_below HW0.out)).thenB hb HZ0.out⟩;clear hd hb ho t0 t1 t2 t3 t4 t5 t6;obtain⟨t0,t1,t2,t3,t4,t5,t6⟩:=HT1.out.s7;go_wp2_with fail;refine (nw z0.heap.size z0.heap.size 1 (l:Int) (by unfold an;omega) y1 HD1.out (by omega) HW1.out.1).mono ?_;rintro e y2 ⟨rfl,hd,hb,ho⟩;have HD2:=zH hd;have HN2:=zH (HN1.out.others ho HD1.out);have HT2:=zH (HT1.out.others (by decide) (by decide) ho HD1.out);have HW2:Hid (z0.heap.size<=y2.heap.size/\ah (KN m1 m2) w y2):=⟨Nat.le_trans HW1.out.1 hb.size,HW1.out.2.thenB hb HZ0.out⟩;clear hd hb ho t0 t1 t2 t3 t4 t5 t6;obtain⟨t0,t1,t2,t3,t4,t5,t6⟩:=HT2.out.s7;go_wp2_with fail
 go_loopg [90] l (fun gk s90 wr=>∃ j:Nat,gk+j=l/\s90=.int .i64 (j:Int)/\Hid (BD wr z0.heap.size z0.heap.size (6+5*j))/\Hid (aE wr p m1 m2 (n+j))/\Hid (af wr w.heap.size 27 #[.int .i64 5,.int .i64 v,.string s,.bool ng,.slice A1 n1 c1,.slice B1 q1 d1,.slice (some ⟨ab,ao,none⟩) l xc])/\Hid (z0.heap.size<=wr.heap.size/\ah (KN m1 m2) w wr))
 case atStart=>exact⟨0,by omega,rfl,HD2,HN2,HT2,HW2⟩
 case round=>
  clear t0 t1 t2 t3 t4 t5 t6;obtain⟨j,hgj,rfl,HDr,HNr,HTr,HWr⟩:=hrel;by_cases hj:j<l
  ·have hAr:=HWr.out.2.blk HA0.out (fun e=>HN.out.cells HA0.out e);obtain⟨k',v',s',ng',A',n',c',B',q',d',X',xl',xc',hk',hv',hs',e0,e1,e2,e3,e4,e5,e6⟩:=HROW.out j hj;have HC:Hid (∀ q u,arr[q]?=some u->wr.cell? ⟨ab,q,none⟩=some u):=fun q u hq=>(hAr.cell q).trans hq;have g0:=HC.out _ _ e0;have g1:=HC.out _ _ e1;have g2:=HC.out _ _ e2;have g3:=HC.out _ _ e3;have g4:=HC.out _ _ e4;have g5:=HC.out _ _ e5;have g6:=HC.out _ _ e6;have HBX:=zH (I wr (.cells #[.int .i64 k',.int .i64 v',.string s',.bool ng',.slice A' n' c',.slice B' q' d',.slice X' xl' xc'] 27));have HLF:=zH (tZ p m1 m2 (n+j) k' v' s' ng' A' n' c' B' q' d' X' xl' xc' hk' hv' hs' _ (HNr.out.below HBX.out) (by omega));clear e0 e1 e2 e3 e4 e5 e6 hAr hk' hv' hs';go_wp2_with fail;refine HLF.out.mono ?_;rintro e y3 ⟨i3,rfl,hi3,hn3,hk3⟩;have HI3:=zH hi3;have HN3:=zH hn3;have HD3:=zH ((HDr.out.below HBX.out).kept hk3 (fun k cs T f hc=>(HNr.out.below HBX.out).cells hc));have HT3:=zH (hk3.blk (HTr.out.to HBX.out) (fun e=>(HNr.out.below HBX.out).cells (HTr.out.to HBX.out) e));have HW3:Hid (z0.heap.size<=y3.heap.size/\ah (KN m1 m2) w y3):=⟨Nat.le_trans HWr.out.1 (Nat.le_trans HBX.out.size hk3.size),(HWr.out.2.trans (ah.of_below HBX.out)).trans hk3⟩;clear hi3 hn3 hk3 g0 g1 g2 g3 g4 g5 g6 HLF;go_wp2_with fail;refine (nw z0.heap.size z0.heap.size (6+5*j) i3 HI3.out y3 HD3.out (by omega) HW3.out.1).mono ?_;rintro e y4 ⟨rfl,hd,hb,ho⟩;have HD4:=zH (hd.le (by omega:_<=6+5*(j+1)));have HN4:=zH (HN3.out.others ho HD3.out);have HT4:=zH (HT3.out.others (by decide) (by decide) ho HD3.out);have HW4:Hid (z0.heap.size<=y4.heap.size/\ah (KN m1 m2) w y4):=⟨Nat.le_trans HW3.out.1 hb.size,HW3.out.2.thenB hb HZ0.out⟩;clear hd hb ho;go_wp2_with fail
   go_roundg (gk-1)
   case measure=>omega
   case rel=>exact⟨j+1,by omega,by go_num,HD4,HN4,HT4,HW4⟩
  ·obtain rfl:l=j:=by omega
   obtain⟨t0,t1,t2,t3,t4,t5,t6⟩:=HTr.out.s7;go_wp2_with fail;refine (fE z0.heap.size z0.heap.size (6+5*l) s wr HDr.out (by omega) (by omega) HWr.out.1).mono ?_;clear HD2 HN2 HT2 HW2;rintro e y2 ⟨rfl,hd,hb,ho⟩;have HD2:=zH (hd.le (by omega:_<=2000));have HN2:=zH (HNr.out.others ho HDr.out);have HT2:=zH (HTr.out.others (by decide) (by decide) ho HDr.out);have HW2:Hid (z0.heap.size<=y2.heap.size/\ah (KN m1 m2) w y2):=⟨Nat.le_trans HWr.out.1 hb.size,HWr.out.2.thenB hb HZ0.out⟩;clear hd hb ho t0 t1 t2 t3 t4 t5 t6;go_wp2_with fail;have hS2:y2.drew.cell? ⟨p,0,none⟩=some (.map (some m1))/\y2.drew.cell? ⟨p,1,none⟩=some (.map (some m2)):=HN2.out.drew.nsc;have HSTR:=zH (kP (w:=w) HD2.out.drew HN2.out.drew HT2.out.drew HW2.out.1 HW2.out.2.drew HZ0.out)
   go_region_held3 (fun w'=>w'.cell? ⟨p,0,none⟩=some (.map (some m1))/\w'.cell? ⟨p,1,none⟩=some (.map (some m2)))
    (first|assumption|(go_keep;done))
    (first
     |(go_at_call 146;(with_reducible refine HSTR.out.mono ?_);rintro e y3 ⟨s3,i3,ok3,rfl,hi3,hl3,HD3,HN3,HT3,HW3,hS3⟩))
   clear hS2 HSTR hl3 hS3;have t0:=HT3.out.cell 0;simp only[L3]at t0;cases ok3 with
   |true=>
    go_wp2_with fail;have hS7:y3.drew.cell? ⟨p,0,none⟩=some (.map (some m1))/\y3.drew.cell? ⟨w.heap.size,0,none⟩=some (.int .i64 5)/\y3.drew.cell? ⟨w.heap.size,1,none⟩=some (.int .i64 v)/\y3.drew.cell? ⟨w.heap.size,2,none⟩=some (.string s)/\y3.drew.cell? ⟨w.heap.size,3,none⟩=some (.bool ng)/\y3.drew.cell? ⟨w.heap.size,4,none⟩=some (.slice A1 n1 c1)/\y3.drew.cell? ⟨w.heap.size,5,none⟩=some (.slice B1 q1 d1)/\y3.drew.cell? ⟨w.heap.size,6,none⟩=some (.slice (some ⟨ab,ao,none⟩) l xc):=⟨HN3.out.nsc.1,HT3.out.cell 0,HT3.out.cell 1,HT3.out.cell 2,HT3.out.cell 3,HT3.out.cell 4,HT3.out.cell 5,HT3.out.cell 6⟩;have HAT:=zH (uY (w:=w) 5 v s ng A1 n1 c1 B1 q1 d1 ab ao l xc hl HN3.out.drew HT3.out.drew (HW3.out.2.drew.blk HA0.out fun e=>HN.out.cells HA0.out e) HW3.out.2.drew hi3.out);clear t0
    go_region_held3 (fun w'=>w'.cell? ⟨p,0,none⟩=some (.map (some m1))/\w'.cell? ⟨w.heap.size,0,none⟩=some (.int .i64 5)/\w'.cell? ⟨w.heap.size,1,none⟩=some (.int .i64 v)/\w'.cell? ⟨w.heap.size,2,none⟩=some (.string s)/\w'.cell? ⟨w.heap.size,3,none⟩=some (.bool ng)/\w'.cell? ⟨w.heap.size,4,none⟩=some (.slice A1 n1 c1)/\w'.cell? ⟨w.heap.size,5,none⟩=some (.slice B1 q1 d1)/\w'.cell? ⟨w.heap.size,6,none⟩=some (.slice (some ⟨ab,ao,none⟩) l xc))
     (first|assumption|(go_keep;done))
     (first
      |(go_at_call 63;(with_reducible refine HAT.out.mono ?_);rintro e y7 ⟨y8,rfl,hl8,HN8,HW8,hS8,hS9⟩))
    clear hS7 HAT hl8 hS8 hS9;go_wp2_with fail;go_ret;exact⟨_,rfl,hi3.out,HN8.out.mono (by omega),HW8.out⟩
   |false=>
    obtain⟨es,cl,hm,hms⟩:=HN3.out.len;obtain⟨e0,e1⟩:=HN3.out.nsc;have hlen:(Builtin.len_ #[114] 3 #[.map (some m2)]).run Tryz.prog y3=.ok (.int .i64 (es.size:Int)) y3:=run_len_map y3 _ _ m2 es cl (by kernel_rfl) hm;go_wp2_with fail;have HI4:Hid (an (es.size:Int)):=⟨by omega,by omega⟩;have hS4:y3.drew.cell? ⟨p,0,none⟩=some (.map (some m1))/\y3.drew.cell? ⟨p,1,none⟩=some (.map (some m2)):=HN3.out.drew.nsc;have HSTR:=zH (nO (w:=w) HD3.out.drew HN3.out.drew HT3.out.drew HW3.out.1 HW3.out.2.drew HZ0.out HI4.out);clear hm hms e0 e1 t0 hlen
    go_region_held3 (fun w'=>w'.cell? ⟨p,0,none⟩=some (.map (some m1))/\w'.cell? ⟨p,1,none⟩=some (.map (some m2)))
     (first|assumption|(go_keep;done))
     (first
      |(go_at_call 146;(with_reducible refine HSTR.out.mono ?_);rintro e y5 ⟨s5,y4,rfl,hl5,HD4,HN4,HT4,HW4,hS5,hS6⟩))
    clear hS4 HSTR hl5 hS5 hS6;have t0:=HT4.out.cell 0;simp only[L3]at t0;go_wp2_with fail;have hS7:y4.drew.cell? ⟨p,0,none⟩=some (.map (some m1))/\y4.drew.cell? ⟨w.heap.size,0,none⟩=some (.int .i64 5)/\y4.drew.cell? ⟨w.heap.size,1,none⟩=some (.int .i64 v)/\y4.drew.cell? ⟨w.heap.size,2,none⟩=some (.string s)/\y4.drew.cell? ⟨w.heap.size,3,none⟩=some (.bool ng)/\y4.drew.cell? ⟨w.heap.size,4,none⟩=some (.slice A1 n1 c1)/\y4.drew.cell? ⟨w.heap.size,5,none⟩=some (.slice B1 q1 d1)/\y4.drew.cell? ⟨w.heap.size,6,none⟩=some (.slice (some ⟨ab,ao,none⟩) l xc):=⟨HN4.out.nsc.1,HT4.out.cell 0,HT4.out.cell 1,HT4.out.cell 2,HT4.out.cell 3,HT4.out.cell 4,HT4.out.cell 5,HT4.out.cell 6⟩;have HAT:=zH (uY (w:=w) 5 v s ng A1 n1 c1 B1 q1 d1 ab ao l xc hl HN4.out.drew HT4.out.drew (HW4.out.2.drew.blk HA0.out fun e=>HN.out.cells HA0.out e) HW4.out.2.drew HI4.out);clear t0
    go_region_held3 (fun w'=>w'.cell? ⟨p,0,none⟩=some (.map (some m1))/\w'.cell? ⟨w.heap.size,0,none⟩=some (.int .i64 5)/\w'.cell? ⟨w.heap.size,1,none⟩=some (.int .i64 v)/\w'.cell? ⟨w.heap.size,2,none⟩=some (.string s)/\w'.cell? ⟨w.heap.size,3,none⟩=some (.bool ng)/\w'.cell? ⟨w.heap.size,4,none⟩=some (.slice A1 n1 c1)/\w'.cell? ⟨w.heap.size,5,none⟩=some (.slice B1 q1 d1)/\w'.cell? ⟨w.heap.size,6,none⟩=some (.slice (some ⟨ab,ao,none⟩) l xc))
     (first|assumption|(go_keep;done))
     (first
      |(go_at_call 63;(with_reducible refine HAT.out.mono ?_);rintro e y7 ⟨y8,rfl,hl8,HN8,HW8,hS8,hS9⟩))
    clear hS7 HAT hl8 hS8 hS9;go_wp2_with fail;go_ret;exact⟨_,rfl,HI4.out,HN8.out.mono (by omega),HW8.out⟩
end Go.Proofs.YtlhojoefhannnaaGreat

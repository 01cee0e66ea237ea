/- term.Size: the number of nodes. And 6 more texts. -/
import Derived.Test.YtlhojoefhannnaaGreatJt8
import Derived.Test.YtlhojoefhannnaaGreatJt13
set_option linter.unusedVariables false
set_option linter.unusedSimpArgs false
set_option maxRecDepth 100000
set_option maxHeartbeats 51200000
namespace Go.Proofs.YtlhojoefhannnaaGreat
open Go.RowKit NumB
theorem mF {w:World} {t:Tm} {cs:List Value} (h:TC w t cs):t.count<=1000000->∀ (W:World),Below w.heap.size w W->
 Calls Tryz.prog 17 #[.agg cs.toArray] W fun e W'=>e=.returned (.int .i64 (t.count:Int))/\Below W.heap.size W W':=by
 induction h with
 |mk k v s n args A B Ar cap cs hk hv hs hA hB hn hcap hm hr ha ih=>
  intro hcn W hW;have HR:=zH hr;have HA:=zH ha;have IH:=zH ih;have HCT:Hid ((Tm.mk k v s n args).count=1+al args):=rfl;have HCN:=zH hcn;unfold maxLen at hm;have HWB:=zH hW;generalize (Tm.mk k v s n args).count=ct at*;generalize n.neg=ng at*;obtain⟨A1,q1,rfl,_⟩:=hA;obtain⟨B1,q2,rfl,_⟩:=hB;generalize n.num.length=m1 at*;generalize n.den.length=m2 at*;clear hr ha ih hn hk hv hs hW hcn;obtain⟨l,hl⟩:∃ l,args.length=l:=⟨_,rfl⟩;rw[hl]at hcap ⊢;have HL:=zH hl;clear hl;have HBA:=zH (I W (.cells #[.int .i64 k,.int .i64 v,.string s,.bool ng,.slice A1 m1 q1,.slice B1 m2 q2,.slice Ar l cap] 27));go_enter Tryz.func17,Tryz.ntmps17;go_wp2_with fail
  go_loopg [3,9] l (fun gk s3 s9 wr=>∃ j c:Nat,gk+j=l/\s9=.int .i64 (j:Int)/\s3=.int .i64 (c:Int)/\c<=1000000/\Hid (c=1+al (args.take j))/\Hid (Below W.heap.size W wr))
  case atStart=>exact⟨0,1,by omega,rfl,rfl,by omega,by unfold Hid;rw[List.take_zero];simp only[al],HBA.out⟩
  case round=>
   obtain⟨j,c,hgj,rfl,rfl,hcm,HC,HB⟩:=hrel;by_cases hj:j<l
   ·have hja:j<args.length:=by rw[HL.out];exact hj
    have HBW:=HWB.out.trans (HB.out.mono HWB.out.size);obtain⟨b,o,k',v',s',ng',A2,n2,c2,B2,m3,d2,Xr,xl,xc,hAr,hcs,hlt,e0,e1,e2,e3,e4,e5,e6⟩:=aO HR.out HA.out HBW hja;subst hAr;have h1:=bF args hja;have h2:=HC.out;have h3:=HCT.out;have h4:=HCN.out;have h5:=cW args (j+1);have HCALL:Hid (∀ W',Below wr.heap.size wr W'->Calls Tryz.prog 17 #[.agg #[.int .i64 k',.int .i64 v',.string s',.bool ng',.slice A2 n2 c2,.slice B2 m3 d2,.slice Xr xl xc]] W' fun e w'=>e=.returned (.int .i64 ((args[j]).count:Int))/\Below W'.heap.size W' w'):=fun W' hb=>by
     have:=IH.out j hja (by omega) W' (HBW.trans (hb.mono HBW.size));rw[hcs]at this;exact this
    have HZ:Hid (c+(args[j]).count=1+al (args.take (j+1))):=by show _=_;rw[h1];omega
    have hzb:c+(args[j]).count<=1000000:=by omega
    clear h1 h2 h3 h4 h5;generalize (args[j]).count=cj at*;go_wp2_with fail;refine (HCALL.out _ (by exact I _ _)).mono ?_;rintro e w3 ⟨rfl,hb⟩;have HB3:=zH (HB.out.trans (((I wr (.cells #[.int .i64 k',.int .i64 v',.string s',.bool ng',.slice A2 n2 c2,.slice B2 m3 d2,.slice Xr xl xc] 27)).trans (hb.mono (I wr _).size)).mono HB.out.size));clear hb e0 e1 e2 e3 e4 e5 e6 HCALL;go_wp2_with fail
    go_roundg (gk-1)
    case measure=>omega
    case rel=>exact⟨j+1,c+cj,by omega,by go_num,by go_num,hzb,HZ,HB3.out⟩
   ·obtain rfl:j=l:=by omega
    have h2:=HC.out;rw[List.take_of_length_le (by rw[HL.out];exact Nat.le_refl _),<-HCT.out]at h2;subst h2;go_wp2_with fail;go_ret;exact⟨rfl,HB.out⟩
mutual
def Tm.grow (f:Int->Option Tm):Tm->Nat
 |.mk k v s n args=>(if k=1 then (match f v with|some x=>x.count-1|none=>0) else 0)+bg f args
def bg (f:Int->Option Tm):List Tm->Nat
 |[]=>0
 |t::l=>t.grow f+bg f l
end
theorem gY (f:Int->Option Tm) (l:List Tm) {j:Nat} (hj:j<l.length):bg f (l.take (j+1))=bg f (l.take j)+(l[j]).grow f:=by
 induction l generalizing j with
 |nil=>cases hj
 |cons t l ih=>
  cases j with
  |zero=>simp only[List.take_succ_cons,List.take_zero,bg,List.getElem_cons_zero];omega
  |succ j=>
   simp only[List.take_succ_cons,bg,List.getElem_cons_succ];rw[ih (by simpa using hj)];omega
theorem ld (f:Int->Option Tm) (l:List Tm) (j:Nat):bg f (l.take j)<=bg f l:=by
 induction l generalizing j with
 |nil=>simp[bg]
 |cons t l ih=>
  cases j with
  |zero=>simp[bg]
  |succ j=>simp only[List.take_succ_cons,bg];have:=ih j;omega
mutual
theorem Tm.grow_le {f:Int->Option Tm} (hf:∀ v x,f v=some x->x.count<=10000):∀ (t:Tm),t.grow f<=10000*t.count
 |.mk k v s n args=>by
  have h:=kf hf args;rw[Tm.grow,Tm.count]
  split
  ·cases hx:f v with
   |none=>simp only;omega
   |some x=>have:=hf v x hx;simp only;omega
  ·omega
theorem kf {f:Int->Option Tm} (hf:∀ v x,f v=some x->x.count<=10000):∀ (l:List Tm),bg f l<=10000*al l
 |[]=>by rw[bg];exact Nat.zero_le _
 |t::l=>by
  have h1:=t.grow_le hf;have h2:=kf hf l;rw[bg,al];omega
end
theorem iK (t:Tm):0<t.count:=by cases t;rw[Tm.count];omega
mutual
def Tm.bare:Tm->Prop
 |.mk k _ _ _ args=>(k=1->args=[])/\jV args
def jV:List Tm->Prop
 |[]=>True
 |t::l=>t.bare/\jV l
end
mutual
theorem Tm.count_repl (f:Int->Option Tm):∀ (t:Tm),t.bare->(t.repl f).count=t.count+t.grow f
 |.mk k v s n args,h=>by
  rw[Tm.bare]at h;have h2:=i9 f args h.2;rw[Tm.repl,Tm.grow];by_cases hk:k=1
  ·rw[if_pos hk,if_pos hk];have ha:=h.1 hk;subst ha;cases hx:f v with
   |none=>simp only[bH,bg,Nat.add_zero]
   |some x=>have:=iK x;simp only[bg,Tm.count,al];omega
  ·rw[if_neg hk,if_neg hk,Tm.count,Tm.count,h2];omega
theorem i9 (f:Int->Option Tm):∀ (l:List Tm),jV l->al (bH f l)=al l+bg f l
 |[],_=>by rw[bH,bg];rfl
 |t::l,h=>by
  rw[jV]at h;have h1:=t.count_repl f h.1;have h2:=i9 f l h.2;rw[bH,bg,al,al];omega
end
mutual
theorem Tm.bare_of:∀ (t:Tm),t.err0=0->t.bare
 |.mk k v s n args,h=>by
  obtain⟨h1,h2⟩:=br h;rw[Tm.bare];refine⟨fun hk=>?_,ot args h2⟩;have:args.length=0:=by
   rcases aj h1 with ⟨_,_,_,_,h5⟩|⟨_,_,_,_,h6⟩
   ·exact h5
   ·rcases h6 with h6|h6|h6|h6
    ·exact h6.2.2.2.2
    ·omega
    ·omega
    ·omega
  exact List.eq_nil_of_length_eq_zero this
theorem ot:∀ (l:List Tm),bN l=0->jV l
 |[],_=>by rw[jV];trivial
 |t::l,h=>by
  rw[bN]at h;by_cases h1:t.err0=0
  ·rw[if_pos h1]at h;rw[jV];exact⟨t.bare_of h1,ot l h⟩
  ·rw[if_neg h1]at h;exact absurd h h1
end
theorem tR {w:World} (fby:FuncId) (bc:Nat) (hen:∀ args w,(callFunc fby args).run Tryz.prog w=.ok (.enter fby args) w) (f:Int->Option Tm) (hcf:∀ v x,f v=some x->x.count<=10000) (hby:∀ v W,Below w.heap.size w W->Calls Tryz.prog fby #[.int .i64 v,.pointer (some ⟨bc,0,none⟩)] W fun e W'=>∃ cx tx,e=.returned (.tuple #[.agg cx.toArray,.bool (f v).isSome])/\TC W' tx cx/\(∀ x,f v=some x->tx=x)/\Below W.heap.size W W')
 {t:Tm} {cs:List Value} (h:TC w t cs):t.count<=10000->∀ (W:World),Below w.heap.size w W->
 Calls Tryz.prog 18 #[.agg cs.toArray,.func (.func fby) #[] #[.pointer (some ⟨bc,0,none⟩)]] W fun e W'=>e=.returned (.int .i64 (t.grow f:Int))/\Below W.heap.size W W':=by
 have HBY:=zH hby;have HCF:=zH hcf;have HEN:=zH hen;clear hby hcf hen
 induction h with
 |mk k v s n args A B Ar cap cs hk hv hs hA hB hn hcap hm hr ha ih=>
  intro hcn W hW;have hct:(Tm.mk k v s n args).count=1+al args:=rfl;have hgl:=kf HCF.out args;have HGL:Hid (∀ j,bg f (args.take j)<=100000000):=fun j=>by
   have:=ld f args j;omega
  have IH:Hid (∀ i (h:i<args.length) (W:World),Below w.heap.size w W->Calls Tryz.prog 18 #[.agg (cs i).toArray,.func (.func fby) #[] #[.pointer (some ⟨bc,0,none⟩)]] W fun e W'=>e=.returned (.int .i64 ((args[i]).grow f:Int))/\Below W.heap.size W W'):=fun i h W hb=>ih i h (by have:=bF args h;have:=cW args (i+1);omega) W hb;have HGR:Hid ((k=1->∀ x,f v=some x->(Tm.mk k v s n args).grow f=(x.count-1)+bg f args)/\(k=1->f v=none->(Tm.mk k v s n args).grow f=0+bg f args)/\(k≠1->(Tm.mk k v s n args).grow f=0+bg f args)):=by
   refine⟨fun h x hx=>?_,fun h hx=>?_,fun h=>?_⟩
   ·rw[Tm.grow,if_pos h,hx]
   ·rw[Tm.grow,if_pos h,hx]
   ·rw[Tm.grow,if_neg h]
  generalize (Tm.mk k v s n args).grow f=gt at*;clear hgl hct hcn;have HR:=zH hr;have HA:=zH ha;have HWB:=zH hW;unfold maxLen at hm;generalize n.neg=ng at*;obtain⟨A1,q1,rfl,_⟩:=hA;obtain⟨B1,q2,rfl,_⟩:=hB;generalize n.num.length=m1 at*;generalize n.den.length=m2 at*;clear hr ha ih hn hk hv hs hW;obtain⟨l,hl⟩:∃ l,args.length=l:=⟨_,rfl⟩;rw[hl]at hcap ⊢;have HL:=zH hl;clear hl;have HB1:Hid (Below W.heap.size W (W.alloc (.cells #[.int .i64 k,.int .i64 v,.string s,.bool ng,.slice A1 m1 q1,.slice B1 m2 q2,.slice Ar l cap] 27))):=I W _;have HK1:Hid (af (W.alloc (.cells #[.int .i64 k,.int .i64 v,.string s,.bool ng,.slice A1 m1 q1,.slice B1 m2 q2,.slice Ar l cap] 27)) W.heap.size 27 #[.int .i64 k,.int .i64 v,.string s,.bool ng,.slice A1 m1 q1,.slice B1 m2 q2,.slice Ar l cap]):=af.new W _ _;go_enter Tryz.func18,Tryz.ntmps18;by_cases hk1:k=1
  ·have hkb:(k==1)=true:=by simp[hk1]
   have HK1E:=zH hk1;clear hk1;have hen:=HEN.out;have HBV:=zH (HBY.out v);cases hfv:f v with
   |some x=>
    rw[hfv]at HBV;simp only[Option.isSome_some]at HBV;go_wp2_with fail;refine (HBV.out _ (by exact HWB.out.trans (HB1.out.mono HWB.out.size))).mono ?_;rintro e w1 ⟨cx,tx,rfl,htx,hx,hb1⟩;obtain rfl:=hx x rfl;obtain⟨k7,v7,s7,n7,A7,a7,c7,B7,b7,d7,X7,x7,e7,hf7⟩:=htx.form;subst hf7;have HCX:=zH (fun W' hb=>mF htx (by have:=HCF.out v _ hfv;omega) W' hb);have hcb:=HCF.out v _ hfv;have hcp:=iK tx;have HA0:Hid (tx.count-1<=10000):=by show _<=_;omega
    have hxc:((tx.count:Int)-1)=((tx.count-1:Nat):Int):=by omega
    have HGT:=zH (HGR.out.1 HK1E.out _ hfv);have HB2:Hid (Below W.heap.size W (w1.alloc (.cells #[.int .i64 k7,.int .i64 v7,.string s7,.bool n7,.slice A7 a7 c7,.slice B7 b7 d7,.slice X7 x7 e7] 27))):=HB1.out.trans ((hb1.trans ((I w1 _).mono hb1.size)).mono HB1.out.size);have HK2:=zH ((HK1.out.to hb1).to (I w1 (.cells #[.int .i64 k7,.int .i64 v7,.string s7,.bool n7,.slice A7 a7 c7,.slice B7 b7 d7,.slice X7 x7 e7] 27)));generalize tx.count=tc at*;have htc:(tc:Int)<=10000:=by omega
    have htp:(0:Int)<(tc:Int):=by omega
    clear htx hx hb1 hen HBV HB1 HK1 hfv HK1E hcb hcp HGR;obtain⟨a0,ha0⟩:∃ a0,tc-1=a0:=⟨_,rfl⟩;rw[ha0]at HGT HA0 hxc;clear ha0;go_wp2_with fail;refine (HCX.out _ (by exact I w1 _)).mono ?_;rintro e w5 ⟨rfl,hb5⟩;have HB5:Hid (Below W.heap.size W w5):=HB2.out.trans (hb5.mono HB2.out.size);have HK5:=zH (HK2.out.to hb5);clear hb5 HB2 HK2 HCX;have y6:=HK5.out.cell 6;simp only[L3]at y6;go_wp2_with fail
    go_loopg [5,27] l (fun gk s5 s27 wr=>∃ j c:Nat,gk+j=l/\s27=.int .i64 (j:Int)/\s5=.int .i64 (c:Int)/\(c:Int)<=1000000000/\Hid (c=a0+bg f (args.take j))/\Hid (Below W.heap.size W wr))
    case atStart=>exact⟨0,a0,by omega,rfl,by first|rfl|(congr 1;omega),by have:=HA0.out;omega,by unfold Hid;rw[List.take_zero];simp only[bg];omega,HB5.out⟩
    case round=>
     clear HB5 HK5;obtain⟨j,c,hgj,rfl,rfl,hcm,HC,HB⟩:=hrel;by_cases hj:j<l
     ·have hja:j<args.length:=by rw[HL.out];exact hj
      have HBW:=HWB.out.trans (HB.out.mono HWB.out.size);obtain⟨b,o,k',v',s',ng',A2,n2,c2,B2,m3,d2,Xr,xl,xc,hAr,hcs,hlt,e0,e1,e2,e3,e4,e5,e6⟩:=aO HR.out HA.out HBW hja;subst hAr;have h1:=gY f args hja;have h2:=HC.out;have h3:=HGL.out (j+1);have HCALL:Hid (∀ W',Below wr.heap.size wr W'->Calls Tryz.prog 18 #[.agg #[.int .i64 k',.int .i64 v',.string s',.bool ng',.slice A2 n2 c2,.slice B2 m3 d2,.slice Xr xl xc],.func (.func fby) #[] #[.pointer (some ⟨bc,0,none⟩)]] W' fun e w'=>e=.returned (.int .i64 ((args[j]).grow f:Int))/\Below W'.heap.size W' w'):=fun W' hb=>by
       have:=IH.out j hja W' (HBW.trans (hb.mono HBW.size));rw[hcs]at this;exact this
      have HZ:Hid (c+(args[j]).grow f=a0+bg f (args.take (j+1))):=by show _=_;rw[h1];omega
      have hzb:(c:Int)+((args[j]).grow f:Int)<=1000000000:=by omega
      clear h1 h2 h3;generalize (args[j]).grow f=cj at*;go_wp2_with fail;refine (HCALL.out _ (by exact I _ _)).mono ?_;rintro e w3 ⟨rfl,hb⟩;have HB3:=zH (HB.out.trans (((I wr (.cells #[.int .i64 k',.int .i64 v',.string s',.bool ng',.slice A2 n2 c2,.slice B2 m3 d2,.slice Xr xl xc] 27)).trans (hb.mono (I wr _).size)).mono HB.out.size));clear hb e0 e1 e2 e3 e4 e5 e6 HCALL;go_wp2_with fail
      go_roundg (gk-1)
      case measure=>omega
      case rel=>exact⟨j+1,c+cj,by omega,by go_num,by go_num,by omega,HZ,HB3.out⟩
     ·obtain rfl:j=l:=by omega
      have h2:=HC.out;rw[List.take_of_length_le (by rw[HL.out];exact Nat.le_refl _),<-HGT.out]at h2;subst h2;go_wp2_with fail;go_ret;exact⟨rfl,HB.out⟩
   |none=>
    rw[hfv]at HBV;simp only[Option.isSome_none]at HBV;go_wp2_with fail;refine (HBV.out _ (by exact HWB.out.trans (HB1.out.mono HWB.out.size))).mono ?_;rintro e w1 ⟨cx,tx,rfl,htx,hx,hb1⟩;obtain⟨k7,v7,s7,n7,A7,a7,c7,B7,b7,d7,X7,x7,e7,hf7⟩:=htx.form;subst hf7;obtain⟨a0,ha0⟩:∃ a0:Nat,a0=0:=⟨_,rfl⟩;have HA0:Hid (a0<=10000):=by show _<=_;omega
    have HGT:=zH (HGR.out.2.1 HK1E.out hfv);rw[<-ha0]at HGT;have HB5:Hid (Below W.heap.size W (w1.alloc (.cells #[.int .i64 k7,.int .i64 v7,.string s7,.bool n7,.slice A7 a7 c7,.slice B7 b7 d7,.slice X7 x7 e7] 27))):=HB1.out.trans ((hb1.trans ((I w1 _).mono hb1.size)).mono HB1.out.size);have HK5:=zH ((HK1.out.to hb1).to (I w1 (.cells #[.int .i64 k7,.int .i64 v7,.string s7,.bool n7,.slice A7 a7 c7,.slice B7 b7 d7,.slice X7 x7 e7] 27)));clear htx hx hb1 hen HBV HB1 HK1 hfv HK1E HGR;have y6:=HK5.out.cell 6;simp only[L3]at y6;go_wp2_with fail
    go_loopg [5,27] l (fun gk s5 s27 wr=>∃ j c:Nat,gk+j=l/\s27=.int .i64 (j:Int)/\s5=.int .i64 (c:Int)/\(c:Int)<=1000000000/\Hid (c=a0+bg f (args.take j))/\Hid (Below W.heap.size W wr))
    case atStart=>exact⟨0,a0,by omega,rfl,by first|rfl|(congr 1;omega),by have:=HA0.out;omega,by unfold Hid;rw[List.take_zero];simp only[bg];omega,HB5.out⟩
    case round=>
     clear HB5 HK5;obtain⟨j,c,hgj,rfl,rfl,hcm,HC,HB⟩:=hrel;by_cases hj:j<l
     ·have hja:j<args.length:=by rw[HL.out];exact hj
      have HBW:=HWB.out.trans (HB.out.mono HWB.out.size);obtain⟨b,o,k',v',s',ng',A2,n2,c2,B2,m3,d2,Xr,xl,xc,hAr,hcs,hlt,e0,e1,e2,e3,e4,e5,e6⟩:=aO HR.out HA.out HBW hja;subst hAr;have h1:=gY f args hja;have h2:=HC.out;have h3:=HGL.out (j+1);have HCALL:Hid (∀ W',Below wr.heap.size wr W'->Calls Tryz.prog 18 #[.agg #[.int .i64 k',.int .i64 v',.string s',.bool ng',.slice A2 n2 c2,.slice B2 m3 d2,.slice Xr xl xc],.func (.func fby) #[] #[.pointer (some ⟨bc,0,none⟩)]] W' fun e w'=>e=.returned (.int .i64 ((args[j]).grow f:Int))/\Below W'.heap.size W' w'):=fun W' hb=>by
       have:=IH.out j hja W' (HBW.trans (hb.mono HBW.size));rw[hcs]at this;exact this
      have HZ:Hid (c+(args[j]).grow f=a0+bg f (args.take (j+1))):=by show _=_;rw[h1];omega
      have hzb:(c:Int)+((args[j]).grow f:Int)<=1000000000:=by omega
      clear h1 h2 h3;generalize (args[j]).grow f=cj at*;go_wp2_with fail;refine (HCALL.out _ (by exact I _ _)).mono ?_;rintro e w3 ⟨rfl,hb⟩;have HB3:=zH (HB.out.trans (((I wr (.cells #[.int .i64 k',.int .i64 v',.string s',.bool ng',.slice A2 n2 c2,.slice B2 m3 d2,.slice Xr xl xc] 27)).trans (hb.mono (I wr _).size)).mono HB.out.size));clear hb e0 e1 e2 e3 e4 e5 e6 HCALL;go_wp2_with fail
      go_roundg (gk-1)
      case measure=>omega
      case rel=>exact⟨j+1,c+cj,by omega,by go_num,by go_num,by omega,HZ,HB3.out⟩
     ·obtain rfl:j=l:=by omega
      have h2:=HC.out;rw[List.take_of_length_le (by rw[HL.out];exact Nat.le_refl _),<-HGT.out]at h2;subst h2;go_wp2_with fail;go_ret;exact⟨rfl,HB.out⟩
  ·have hkb:(k==1)=false:=beq_eq_false_iff_ne.2 hk1;obtain⟨a0,ha0⟩:∃ a0:Nat,a0=0:=⟨_,rfl⟩;have HA0:Hid (a0<=10000):=by show _<=_;omega
   have HGT:=zH (HGR.out.2.2 hk1);rw[<-ha0]at HGT;have HB5:=HB1;have HK5:=HK1;clear HB1 HK1 HGR hk1;have y6:=HK5.out.cell 6;simp only[L3]at y6;go_wp2_with fail
   go_loopg [5,27] l (fun gk s5 s27 wr=>∃ j c:Nat,gk+j=l/\s27=.int .i64 (j:Int)/\s5=.int .i64 (c:Int)/\(c:Int)<=1000000000/\Hid (c=a0+bg f (args.take j))/\Hid (Below W.heap.size W wr))
   case atStart=>exact⟨0,a0,by omega,rfl,by first|rfl|(congr 1;omega),by have:=HA0.out;omega,by unfold Hid;rw[List.take_zero];simp only[bg];omega,HB5.out⟩
   case round=>
    clear HB5 HK5;obtain⟨j,c,hgj,rfl,rfl,hcm,HC,HB⟩:=hrel;by_cases hj:j<l
    ·have hja:j<args.length:=by rw[HL.out];exact hj
     have HBW:=HWB.out.trans (HB.out.mono HWB.out.size);obtain⟨b,o,k',v',s',ng',A2,n2,c2,B2,m3,d2,Xr,xl,xc,hAr,hcs,hlt,e0,e1,e2,e3,e4,e5,e6⟩:=aO HR.out HA.out HBW hja;subst hAr;have h1:=gY f args hja;have h2:=HC.out;have h3:=HGL.out (j+1);have HCALL:Hid (∀ W',Below wr.heap.size wr W'->Calls Tryz.prog 18 #[.agg #[.int .i64 k',.int .i64 v',.string s',.bool ng',.slice A2 n2 c2,.slice B2 m3 d2,.slice Xr xl xc],.func (.func fby) #[] #[.pointer (some ⟨bc,0,none⟩)]] W' fun e w'=>e=.returned (.int .i64 ((args[j]).grow f:Int))/\Below W'.heap.size W' w'):=fun W' hb=>by
      have:=IH.out j hja W' (HBW.trans (hb.mono HBW.size));rw[hcs]at this;exact this
     have HZ:Hid (c+(args[j]).grow f=a0+bg f (args.take (j+1))):=by show _=_;rw[h1];omega
     have hzb:(c:Int)+((args[j]).grow f:Int)<=1000000000:=by omega
     clear h1 h2 h3;generalize (args[j]).grow f=cj at*;go_wp2_with fail;refine (HCALL.out _ (by exact I _ _)).mono ?_;rintro e w3 ⟨rfl,hb⟩;have HB3:=zH (HB.out.trans (((I wr (.cells #[.int .i64 k',.int .i64 v',.string s',.bool ng',.slice A2 n2 c2,.slice B2 m3 d2,.slice Xr xl xc] 27)).trans (hb.mono (I wr _).size)).mono HB.out.size));clear hb e0 e1 e2 e3 e4 e5 e6 HCALL;go_wp2_with fail
     go_roundg (gk-1)
     case measure=>omega
     case rel=>exact⟨j+1,c+cj,by omega,by go_num,by go_num,by omega,HZ,HB3.out⟩
    ·obtain rfl:j=l:=by omega
     have h2:=HC.out;rw[List.take_of_length_le (by rw[HL.out];exact Nat.le_refl _),<-HGT.out]at h2;subst h2;go_wp2_with fail;go_ret;exact⟨rfl,HB.out⟩
def Tm.zero:Tm:=.mk 0 0 ⟨#[]⟩ ⟨false,[],[]⟩ []
theorem TC.zero (w:World):TC w .zero [.int .i64 0,.int .i64 0,.string ⟨#[]⟩,.bool false,.slice none 0 0,.slice none 0 0,.slice none 0 0]:=
 .mk 0 0 ⟨#[]⟩ ⟨false,[],[]⟩ [] (.slice none 0 0) (.slice none 0 0) none 0 (fun _=>[]) ⟨by decide,by decide⟩ ⟨by decide,by decide⟩ (by decide) (ep _ _) (ep _ _) ⟨Ok.nil,Ok.nil⟩ (Nat.le_refl _) (by decide) (fun h=>by simp at h) (fun i h=>by simp at h)
def fg (bs:List (Int×Tm)):Nat->Int
 |0 => -1
 |j+1=>(bs.getD j (0,Tm.zero)).1
theorem ei {bs:List (Int×Tm)} {j:Nat} (h:j<bs.length):fg bs (j+1)=(bs[j]).1:=by simp[fg,List.getD,h]
def eB (bs:List (Int×Tm)):Prop:=∀ j (h:j<bs.length),fg bs j<(bs[j]).1/\(bs[j]).2.check=0
theorem eB.incr {bs:List (Int×Tm)} (h:eB bs):dN bs:=by
 intro i j hi hj hij
 induction j with
 |zero=>omega
 |succ j ih=>
  have h1:=(h (j+1) hj).1;rw[ei (by omega)]at h1;by_cases e:i=j
  ·subst e;exact h1
  ·have:=ih (by omega) (by omega);omega
theorem eB.pos {bs:List (Int×Tm)} (h:eB bs) {j:Nat} (hj:j<bs.length):0<=(bs[j]).1:=by
 induction j with
 |zero=>have:=(h 0 hj).1;simp only[fg]at this;omega
 |succ j ih=>
  have h1:=(h (j+1) hj).1;rw[ei (by omega)]at h1;have:=ih (by omega);omega
theorem sn {bs:List (Int×Tm)} {v:Int} {x:Tm} (h:fnd bs v=some x):∃ j,∃ hj:j<bs.length,(bs[j]).2=x:=by
 unfold fnd at h;rw[Option.map_eq_some_iff]at h;obtain⟨p,hp,rfl⟩:=h;obtain⟨j,hj,e⟩:=List.getElem_of_mem (List.mem_of_find?_eq_some hp);exact⟨j,hj,by rw[e]⟩
theorem eB.fnd {bs:List (Int×Tm)} (h:eB bs) {v:Int} {x:Tm} (hx:fnd bs v=some x):x.err0=0/\x.count<=10000:=by
 obtain⟨j,hj,rfl⟩:=sn hx;have:=aL (h j hj).2;exact⟨this.2,this.1⟩
mutual
theorem Tm.free_sub:∀ (t:Tm) (l:List Int),∀ v,v∈l->v∈t.free l
 |.mk k v s n args,l=>fun u hu=>by
  rw[Tm.free];refine gy args _ u ?_
  split
  ·exact List.mem_append_left _ hu
  ·exact hu
theorem gy:∀ (ts:List Tm) (l:List Int),∀ v,v∈l->v∈bf ts l
 |[],l=>fun u hu=>by rw[bf];exact hu
 |t::ts,l=>fun u hu=>by rw[bf];exact gy ts _ u (t.free_sub l u hu)
end
mutual
theorem Tm.allV_free:∀ (t:Tm) (l:List Int),t.allV (· ∈ t.free l)
 |.mk k v s n args,l=>by
  rw[Tm.allV,Tm.free];refine⟨fun e=>gy args _ v ?_,jS args _⟩
  split
  ·exact List.mem_append_right _ (List.mem_singleton.2 rfl)
  ·next h=>exact Classical.byContradiction fun h2=>h ⟨e,h2⟩
theorem jS:∀ (ts:List Tm) (l:List Int),bm (· ∈ bf ts l) ts
 |[],l=>by rw[bm];trivial
 |t::ts,l=>by
  rw[bm,bf];exact⟨t.allV_mono (fun v hv=>gy ts _ v hv) (t.allV_free l),jS ts _⟩
end
theorem eW {v:Int} (h0:0<=v) (h1:v<=1073741824):(Tm.var v).err0=0:=by
 rw[Tm.var,Tm.err0];have:=qw h0 h1 (LN.err ⟨false,[],[]⟩);simp only[List.length_nil];rw[if_pos this,bN]
mutual
theorem Tm.err0_repl {f:Int->Option Tm}:∀ (t:Tm),t.err0=0->t.allV (fun v=>∀ x,f v=some x->x.err0=0)->(t.repl f).err0=0
 |.mk k v s n args,h,hv=>by
  obtain⟨h1,h2⟩:=br h;rw[Tm.allV]at hv;have h3:=lN args h2 hv.2;have h4:(Tm.mk k v s n (bH f args)).err0=0:=by rw[Tm.err0,iU,if_pos h1];exact h3
  rw[Tm.repl]
  split
  ·next hk=>
   cases hx:f v with
   |none=>exact h4
   |some x=>exact hv.1 hk x hx
  ·exact h4
theorem lN {f:Int->Option Tm}:∀ (l:List Tm),bN l=0->bm (fun v=>∀ x,f v=some x->x.err0=0) l->bN (bH f l)=0
 |[],_,_=>by rw[bH,bN]
 |t::l,h,hv=>by
  rw[bm]at hv;have h0:=dm h (j:=0) (by simp);simp only[List.getElem_cons_zero]at h0;rw[bN,if_pos h0]at h;rw[bH,bN,t.err0_repl h0 hv.1,if_pos rfl];exact lN l h hv.2
end
theorem fN {f:Int->Option Tm} (hf:∀ v x,f v=some x->x.count=1) (t:Tm) (h:t.err0=0):(t.repl f).count=t.count:=by
 have h1:∀ t:Tm,t.grow f=0:=by
  intro t
  induction t using Tm.rec (motive_2:=fun l=>bg f l=0) with
  |mk k v s n args ih=>
   rw[Tm.grow,ih]
   split
   ·cases hx:f v with
    |none=>rfl
    |some x=>simp only[hf v x hx]
   ·rfl
  |nil=>rw[bg]
  |cons t l h1 h2=>rw[bg,h1,h2]
 rw[t.count_repl f (t.bare_of h),h1 t,Nat.add_zero]
inductive aU (t:Tm) (bs:List (Int×Tm)):Tm->Int->Prop
 |bad (h:t.check≠0):aU t bs .zero t.check
 |form (h:t.check=0) (h2:¬eB bs):aU t bs .zero 2
 |size (h:t.check=0) (h2:eB bs) (h3:10000<(t.repl (fnd bs)).count):aU t bs .zero 3
 |ok (h:t.check=0) (h2:eB bs) (h3:(t.repl (fnd bs)).count<=10000):aU t bs (t.repl (fnd bs)) 0
def Tm.okz (t:Tm):Prop:=t=.zero\/(t.err0=0/\t.count<=10000)
theorem aU.okz {t:Tm} {bs:List (Int×Tm)} {x:Tm} {e:Int} (h:aU t bs x e):x.okz:=by
 cases h with
 |bad h=>exact .inl rfl
 |form h h2=>exact .inl rfl
 |size h h2 h3=>exact .inl rfl
 |ok h h2 h3=>
  refine .inr ⟨t.err0_repl (aL h).2 (t.allV_mono (P:=fun _=>True) (fun v _ x hx=>(h2.fnd hx).1) ?_),h3⟩;exact Tm.allV_mono (fun _ _=>trivial) _ (t.allV_free [])
theorem aU.one {t:Tm} {bs:List (Int×Tm)} {x y:Tm} {e g:Int} (h:aU t bs x e) (h':aU t bs y g):x=y/\e=g:=by
 cases h with
 |bad h=>cases h' with
  |bad _=>exact⟨rfl,rfl⟩
  |form h2 _=>exact absurd h2 h
  |size h2 _ _=>exact absurd h2 h
  |ok h2 _ _=>exact absurd h2 h
 |form h h2=>cases h' with
  |bad h3=>exact absurd h h3
  |form _ _=>exact⟨rfl,rfl⟩
  |size _ h4 _=>exact absurd h4 h2
  |ok _ h4 _=>exact absurd h4 h2
 |size h h2 h3=>cases h' with
  |bad h5=>exact absurd h h5
  |form _ h4=>exact absurd h2 h4
  |size _ _ _=>exact⟨rfl,rfl⟩
  |ok _ _ h4=>omega
 |ok h h2 h3=>cases h' with
  |bad h5=>exact absurd h h5
  |form _ h4=>exact absurd h2 h4
  |size _ _ h4=>omega
  |ok _ _ _=>exact⟨rfl,rfl⟩
def Ao (t:Tm) (by_:Int):Prop:=by_<0\/∃ v,v∈t.free []/\1073741824-by_<v
inductive eg (t:Tm) (by_:Int):Tm->Int->Prop
 |bad (h:t.check≠0):eg t by_ .zero t.check
 |arg (h:t.check=0) (h2:Ao t by_):eg t by_ .zero 1
 |ok (h:t.check=0) (h2:¬Ao t by_):eg t by_ (t.repl fun v=>some (.var (v+by_))) 0
theorem fb {t:Tm}:t.err0=0->t.allV (fun v=>0<=v/\v<=1073741824):=by
 induction t using Tm.rec (motive_2:=fun l=>bN l=0->bm (fun v=>0<=v/\v<=1073741824) l) with
 |mk k v s n args ih=>
  intro h;obtain⟨h1,h2⟩:=br h;rw[Tm.allV];refine⟨fun hk=>?_,ih h2⟩;rcases aj h1 with ⟨h5,_⟩|⟨_,hng,ha,hb,h6⟩
  ·omega
  rcases h6 with h6|h6|h6|h6
  ·exact⟨h6.2.1,h6.2.2.1⟩
  ·omega
  ·omega
  ·omega
 |nil=>rw[bm];trivial
 |cons t l h1 h2=>
  rename_i h
  have h0:=dm h (j:=0) (by simp);simp only[List.getElem_cons_zero]at h0;rw[bN,if_pos h0]at h;rw[bm];exact⟨h1 h0,h2 h⟩
mutual
theorem Tm.allV_and {P Q:Int->Prop}:∀ (t:Tm),t.allV P->t.allV Q->t.allV (fun v=>P v/\Q v)
 |.mk k v s n args,h,h'=>by
  rw[Tm.allV]at h h' ⊢;exact⟨fun e=>⟨h.1 e,h'.1 e⟩,lu args h.2 h'.2⟩
theorem lu {P Q:Int->Prop}:∀ (l:List Tm),bm P l->bm Q l->bm (fun v=>P v/\Q v) l
 |[],_,_=>by rw[bm];trivial
 |t::l,h,h'=>by
  rw[bm]at h h' ⊢;exact⟨t.allV_and h.1 h'.1,lu l h.2 h'.2⟩
end
theorem eg.okz {t:Tm} {by_:Int} {x:Tm} {e:Int} (h:eg t by_ x e):x.okz:=by
 cases h with
 |bad h=>exact .inl rfl
 |arg h h2=>exact .inl rfl
 |ok h h2=>
  obtain⟨hc,he⟩:=aL h;refine .inr ⟨t.err0_repl he (Tm.allV_mono (fun v hv x hx=>?_) t (t.allV_and (t.allV_free []) (fb he))),?_⟩
  ·cases hx;unfold Ao at h2;refine eW ?_ ?_
   ·have h3:¬by_<0:=fun h3=>h2 (.inl h3);have:=hv.2.1;omega
   ·have h3:¬1073741824-by_<v:=fun h3=>h2 (.inr ⟨v,hv.1,h3⟩);omega
  ·rw[fN (fun v x hx=>?_) t he]
   ·exact hc
   ·cases hx;rw[Tm.var,Tm.count,al]
theorem eg.one {t:Tm} {by_:Int} {x y:Tm} {e g:Int} (h:eg t by_ x e) (h':eg t by_ y g):x=y/\e=g:=by
 cases h with
 |bad h=>cases h' with
  |bad _=>exact⟨rfl,rfl⟩
  |arg h2 _=>exact absurd h2 h
  |ok h2 _=>exact absurd h2 h
 |arg h h2=>cases h' with
  |bad h3=>exact absurd h h3
  |arg _ _=>exact⟨rfl,rfl⟩
  |ok _ h4=>exact absurd h2 h4
 |ok h h2=>cases h' with
  |bad h5=>exact absurd h h5
  |arg _ h4=>exact absurd h4 h2
  |ok _ _=>exact⟨rfl,rfl⟩
def Tm.shp (t:Tm):List UInt8:=match t with
 |.mk k v s n args=>if k=0 then [] else (Tm.mk k v s n args).shapeL
theorem fp {w:World} {t:Tm} {cs:List Value} (h:TC w t cs) (hf:t.okz) (W:World) (hW:Below w.heap.size w W):
 Calls Tryz.prog 6 #[.agg cs.toArray] W fun e W'=>e=.returned (.string ⟨t.shp.toArray⟩)/\Below W.heap.size W W':=by
 rcases hf with rfl|⟨h1,h2⟩
 ·obtain⟨k,v,s,ng,A1,n1,c1,B1,m1,d1,Ar,l,cap,hcs⟩:=h.form;subst hcs;have hk:k=0:=by cases h;rfl
  subst hk;have hz:(⟨Tm.zero.shp.toArray⟩:ByteArray)=⟨#[]⟩:=by rfl
  rw[hz];clear h hW hz;go_enter Tryz.func6,Tryz.ntmps6;go_wp2_with fail;go_ret;exact⟨rfl,I W _⟩
 ·have hs:t.shp=t.shapeL:=by
   cases t with
   |mk k v s n args=>
    have hk0:k≠0:=by
     rcases aj (br h1).1 with ⟨rfl,_⟩|⟨_,_,_,_,⟨rfl,_⟩|⟨rfl,_⟩|⟨rfl,_⟩|⟨rfl,_⟩⟩<;>decide
    simp only[Tm.shp,if_neg hk0]
  rw[hs];exact nh h h1 h2 W hW
theorem sq {t:Tm} (h:t.err0=0):∀ v,v∈t.free []->0<=v/\v<=1073741824:=by
 have key:∀ t:Tm,t.allV (fun v=>0<=v/\v<=1073741824)->∀ l,(∀ v,v∈l->0<=v/\v<=1073741824)->∀ v,v∈t.free l->0<=v/\v<=1073741824:=by
  intro t
  induction t using Tm.rec (motive_2:=fun ts=>bm (fun v=>0<=v/\v<=1073741824) ts->∀ l,(∀ v,v∈l->0<=v/\v<=1073741824)->∀ v,v∈bf ts l->0<=v/\v<=1073741824) with
  |mk k v s n args ih=>
   intro ha l hl;rw[Tm.allV]at ha;rw[Tm.free];refine ih ha.2 _ fun u hu=>?_
   split at hu
   ·next hc=>
    rcases List.mem_append.1 hu with h|h
    ·exact hl u h
    ·rw[List.mem_singleton]at h;subst h;exact ha.1 hc.1
   ·exact hl u hu
  |nil=>
   rename_i ha l hl v hv
   rw[bf]at hv;exact hl v hv
  |cons t ts h1 h2=>
   rename_i ha l hl v hv
   rw[bm]at ha;rw[bf]at hv;exact h2 ha.2 _ (h1 ha.1 l hl) v hv
 exact key t (fb h) [] fun v hv=>by cases hv
def iH (p:Nat->Prop) (w:World) (v:Value) (xs:List Nat):Prop:=
 ∃ A c,v=.slice A xs.length c/\xs.length<=c/\c<=maxLen/\(0<xs.length->∃ b o,A=some ⟨b,o,none⟩/\p b/\b<w.heap.size/\∀ i,i<xs.length->w.cell? ⟨b,o+i,none⟩=some (.int .u32 ((xs.getD i 0:Nat):Int)))
theorem iH.sl {p:Nat->Prop} {w:World} {v:Value} {xs:List Nat} (h:iH p w v xs):Sl .u32 w v xs:=by
 obtain⟨A,c,e,h1,h2,h3⟩:=h;exact⟨A,c,e,h1,h2,rfl,fun h0=>by obtain⟨b,o,e,_,hb,hc⟩:=h3 h0;exact⟨b,o,e,hb,hc⟩⟩
theorem iH.of_sl {w:World} {v:Value} {xs:List Nat} (h:Sl .u32 w v xs):iH (fun b=>b<w.heap.size) w v xs:=by
 obtain⟨A,c,e,h1,h2,_,h3⟩:=h;exact⟨A,c,e,h1,h2,fun h0=>by obtain⟨b,o,e,hb,hc⟩:=h3 h0;exact⟨b,o,e,hb,hb,hc⟩⟩
theorem iH.of_own {B T:Nat} {w:World} {v:Value} {xs:List Nat} (h:aK .u32 T w B v xs):iH (fun b=>B<=b) w v xs:=by
 obtain⟨A,c,e,h1,h2,_,h3⟩:=h.sl;refine⟨A,c,e,h1,h2,fun h0=>?_⟩;obtain⟨b,o,e2,hb,hc⟩:=h3 h0;subst e e2;exact⟨b,o,rfl,(Go.World.ownsRow.lt h b rfl).1,hb,hc⟩
theorem iH.to {p:Nat->Prop} {w w':World} {v:Value} {xs:List Nat} (h:iH p w v xs) (hs:w.heap.size<=w'.heap.size) (hb:∀ b,p b->b<w.heap.size->w'.heap[b]?=w.heap[b]?):iH p w' v xs:=by
 obtain⟨A,c,e,h1,h2,h3⟩:=h;exact⟨A,c,e,h1,h2,fun h0=>by
  obtain⟨b,o,e,hp,hlt,hc⟩:=h3 h0;exact⟨b,o,e,hp,Nat.lt_of_lt_of_le hlt hs,fun i hi=>(World.cell?_of_block (a:=⟨b,o+i,none⟩) (hb b hp hlt)).trans (hc i hi)⟩⟩
theorem iH.mono {p q:Nat->Prop} {w:World} {v:Value} {xs:List Nat} (h:iH p w v xs) (hpq:∀ b,p b->b<w.heap.size->q b):iH q w v xs:=by
 obtain⟨A,c,e,h1,h2,h3⟩:=h;exact⟨A,c,e,h1,h2,fun h0=>by
  obtain⟨b,o,e,hp,hlt,hc⟩:=h3 h0;exact⟨b,o,e,hpq b hp hlt,hlt,hc⟩⟩
theorem iH.nil_ (p:Nat->Prop) (w:World):iH p w (.slice none 0 0) []:=⟨none,0,rfl,Nat.le_refl _,by unfold maxLen;omega,fun h=>absurd h (by simp)⟩
inductive cr (p:Nat->Prop) (w:World):Tm->List Value->Prop
 |mk (k v:Int) (s:ByteArray) (n:LN) (args:List Tm) (A B:Value) (Ar:Option Addr) (cap:Nat) (cs:Nat->List Value)
  (hk:an k) (hv:an v) (hs:s.size<=maxLen) (hA:iH p w A n.num) (hB:iH p w B n.den) (hn:n.ok)
  (hcap:args.length<=cap) (hm:cap<=maxLen)
  (hr:0<args.length->∃ b o,Ar=some ⟨b,o,none⟩/\p b/\b<w.heap.size/\∀ i,i<args.length->∀ j,j<7->w.cell? ⟨b,o+i*7+j,none⟩=(cs i)[j]?)
  (ha:∀ i (h:i<args.length),cr p w args[i] (cs i)):
  cr p w (.mk k v s n args) [.int .i64 k,.int .i64 v,.string s,.bool n.neg,A,B,.slice Ar args.length cap]
theorem cr.tc {p:Nat->Prop} {w:World} {t:Tm} {cs:List Value} (h:cr p w t cs):TC w t cs:=by
 induction h with
 |mk k v s n args A C Ar cap cs hk hv hs hA hC hn hcap hm hr ha ih=>
  exact .mk k v s n args A C Ar cap cs hk hv hs hA.sl hC.sl hn hcap hm (fun h0=>by obtain⟨b,o,e,_,hlt,hc⟩:=hr h0;exact⟨b,o,e,hlt,hc⟩) ih
theorem cr.of_tc {w:World} {t:Tm} {cs:List Value} (h:TC w t cs):cr (fun b=>b<w.heap.size) w t cs:=by
 induction h with
 |mk k v s n args A C Ar cap cs hk hv hs hA hC hn hcap hm hr ha ih=>
  exact .mk k v s n args A C Ar cap cs hk hv hs (.of_sl hA) (.of_sl hC) hn hcap hm (fun h0=>by obtain⟨b,o,e,hlt,hc⟩:=hr h0;exact⟨b,o,e,hlt,hlt,hc⟩) ih
theorem cr.of_tcf {B:Nat} {w:World} {t:Tm} {cs:List Value} (h:fF B w t cs):cr (fun b=>B<=b) w t cs:=by
 obtain⟨f,h⟩:=h
 induction h with
 |mk k v s n args A C Ar cap cs hk hv hs hA hC hn hcap hm hr ha ih=>
  exact .mk k v s n args A C Ar cap cs hk hv hs (.of_own hA) (.of_own hC) hn hcap hm (fun h0=>by obtain⟨b,e,hB,hlt,_,_,hc⟩:=hr h0;exact⟨b,0,e,hB,hlt,hc⟩) ih
theorem cr.to {p:Nat->Prop} {w w':World} {t:Tm} {cs:List Value} (h:cr p w t cs) (hs:w.heap.size<=w'.heap.size) (hb:∀ b,p b->b<w.heap.size->w'.heap[b]?=w.heap[b]?):cr p w' t cs:=by
 induction h with
 |mk k v s n args A C Ar cap cs hk hv hs' hA hC hn hcap hm hr ha ih=>
  refine .mk k v s n args A C Ar cap cs hk hv hs' (hA.to hs hb) (hC.to hs hb) hn hcap hm (fun h0=>?_) ih;obtain⟨b,o,e,hp,hlt,hc⟩:=hr h0;exact⟨b,o,e,hp,Nat.lt_of_lt_of_le hlt hs,fun i hi j hj=>(World.cell?_of_block (a:=⟨b,o+i*7+j,none⟩) (hb b hp hlt)).trans (hc i hi j hj)⟩
theorem cr.mono {p q:Nat->Prop} {w:World} {t:Tm} {cs:List Value} (h:cr p w t cs) (hpq:∀ b,p b->b<w.heap.size->q b):cr q w t cs:=by
 induction h with
 |mk k v s n args A C Ar cap cs hk hv hs' hA hC hn hcap hm hr ha ih=>
  refine .mk k v s n args A C Ar cap cs hk hv hs' (hA.mono hpq) (hC.mono hpq) hn hcap hm (fun h0=>?_) ih;obtain⟨b,o,e,hp,hlt,hc⟩:=hr h0;exact⟨b,o,e,hpq b hp hlt,hlt,hc⟩
theorem cr.onto {p:Nat->Prop} {w w':World} {t:Tm} {cs:List Value} (h:cr p w t cs) (hb:Below w.heap.size w w'):cr p w' t cs:=h.to hb.size fun b _ hlt=>hb.block b hlt
theorem cr.drew {p:Nat->Prop} {w:World} {t:Tm} {cs:List Value} (h:cr p w t cs):cr p w.drew t cs:=h.to (Nat.le_refl _) fun _ _ _=>rfl
theorem cr.store {O:Nat} {w:World} {t:Tm} {cs:List Value} (h:cr (fun b=>b≠O) w t cs) (i:Nat) (u:Value):cr (fun b=>b≠O) (w.setCell ⟨O,i,none⟩ u) t cs:=
 h.to (by simp[World.setCell]) fun b hb _=>Below.heap_setCell w ⟨O,i,none⟩ u b hb
theorem cr.form {p:Nat->Prop} {w:World} {t:Tm} {cs:List Value} (h:cr p w t cs):∃ k v s ng A1 n1 c1 B1 m1 d1 Xr l cap,cs=[.int .i64 k,.int .i64 v,.string s,.bool ng,.slice A1 n1 c1,.slice B1 m1 d1,.slice Xr l cap]:=h.tc.form
theorem cr.cell {p:Nat->Prop} {W:World} {b:Nat} {x r:Tm} {k0 v0 k1 v1:Int} {s0 s1:ByteArray} {n0 n1:Bool} {p0 p1 p2 q0 q1 q2:Value}
 (h:af W b 27 #[.int .i64 k0,.int .i64 v0,.string s0,.bool n0,p0,p1,p2,.int .i64 k1,.int .i64 v1,.string s1,.bool n1,q0,q1,q2]) (hp:p b)
 (hx:cr p W x [.int .i64 k0,.int .i64 v0,.string s0,.bool n0,p0,p1,p2]) (hr:cr p W r [.int .i64 k1,.int .i64 v1,.string s1,.bool n1,q0,q1,q2]):
 cr p W (.cell x r) (rY b):=
 .mk 5 0 ⟨#[46]⟩ ⟨false,[],[]⟩ [x,r] (.slice none 0 0) (.slice none 0 0) (some ⟨b,0,none⟩) 2 (fun i=>if i=0 then [.int .i64 k0,.int .i64 v0,.string s0,.bool n0,p0,p1,p2] else [.int .i64 k1,.int .i64 v1,.string s1,.bool n1,q0,q1,q2]) ⟨by decide,by decide⟩ ⟨by decide,by decide⟩ (by decide) (.nil_ p W) (.nil_ p W) ⟨Ok.nil,Ok.nil⟩ (Nat.le_refl _) (by decide)
  (fun _=>⟨b,0,rfl,hp,h.lt,fun i hi j hj=>by
   have hi:i<2:=hi;rw[h.cell];have h01:i=0\/i=1:=by omega
   have h07:j=0\/j=1\/j=2\/j=3\/j=4\/j=5\/j=6:=by omega
   rcases h01 with rfl|rfl<;>rcases h07 with rfl|rfl|rfl|rfl|rfl|rfl|rfl<;>rfl⟩)
  (fun i hi=>by
   have hi:i<2:=hi;have:i=0\/i=1:=by omega
   rcases this with rfl|rfl
   ·exact hx
   ·exact hr)
end Go.Proofs.YtlhojoefhannnaaGreat
namespace Go.Proofs.YtlhojoefhannnaaGreat
open Go.RowKit NumB
theorem cr.kept {R O:Nat} {w w':World} {t:Tm} {cs:List Value} (h:cr (fun b=>R<b/\b≠O) w t cs) (hk:ah (fun k=>k=O) w w'):cr (fun b=>R<b/\b≠O) w' t cs:=
 h.to hk.size fun b hb hlt=>hk.block b hlt hb.2
def wO (w:World) (R O:Nat) (x r:Tm) (o0 o1 o2 o3 o4 o5 o6:Value) (L:Nat->Bool) (s20 s21 s22 s23:Value) (W:World):Prop:=
 ah (fun k=>k=O) w W/\cr (fun b=>R<b/\b≠O) W r [o0,o1,o2,o3,o4,o5,o6]/\(L 8=false->af W O 27 #[o0,o1,o2,o3,o4,o5,o6])/\
 (L 4=true->∃ k v s ng A1 n1 c1 B1 m1 d1 Xr l cap,s20=.agg #[.int .i64 k,.int .i64 v,.string s,.bool ng,.slice A1 n1 c1,.slice B1 m1 d1,.slice Xr l cap]/\cr (fun b=>R<b/\b≠O) W x [.int .i64 k,.int .i64 v,.string s,.bool ng,.slice A1 n1 c1,.slice B1 m1 d1,.slice Xr l cap])/\
 (L 5=true->s21=.agg #[o0,o1,o2,o3,o4,o5,o6])/\
 (L 6=true->L 5=true/\∃ g,s22=.slice (some ⟨g,0,none⟩) 2 2/\cr (fun b=>R<b/\b≠O) W (.cell x r) (rY g))/\
 (L 7=true->L 6=true/\s23=.agg #[.int .i64 5,.int .i64 0,.string ⟨#[46]⟩,.bool false,.slice none 0 0,.slice none 0 0,s22])/\
 (L 8=true->L 7=true/\af W O 27 #[.int .i64 5,.int .i64 0,.string ⟨#[46]⟩,.bool false,.slice none 0 0,.slice none 0 0,s22])
section
variable {w W W2:World} {R O:Nat} {x r:Tm} {o0 o1 o2 o3 o4 o5 o6:Value} {L:Nat->Bool} {s20 s21 s22 s23:Value}
theorem wO.init (h2:cr (fun b=>R<b/\b≠O) w r [o0,o1,o2,o3,o4,o5,o6]) (h3:af w O 27 #[o0,o1,o2,o3,o4,o5,o6]) (hL:∀ i,4<=i->L i=false):wO w R O x r o0 o1 o2 o3 o4 o5 o6 L s20 s21 s22 s23 w:=by
 refine⟨ah.refl _ _,h2,fun _=>h3,?_,?_,?_,?_,?_⟩<;>(intro h;exact absurd ((hL _ (by omega)).symm.trans h) (by simp))
theorem wO.done (h:wO w R O x r o0 o1 o2 o3 o4 o5 o6 L s20 s21 s22 s23 W) (hall:∀ i,i<9->L i=true):
 ah (fun k=>k=O) w W/\∃ g,s22=.slice (some ⟨g,0,none⟩) 2 2/\cr (fun b=>R<b/\b≠O) W (.cell x r) (rY g)/\af W O 27 #[.int .i64 5,.int .i64 0,.string ⟨#[46]⟩,.bool false,.slice none 0 0,.slice none 0 0,s22]:=by
 obtain⟨h1,h2,h3,h4,h5,h6,h7,h8⟩:=h;obtain⟨_,g,e,ht⟩:=h6 (hall 6 (by omega));exact⟨h1,g,e,ht,(h8 (hall 8 (by omega))).2⟩
end
theorem mR (w:World) (o:Obj) {T:TypeId} (cs:Array Value):af ((w.alloc o).alloc (.cells cs T)) (w.heap.size+1) T cs:=by
 have h:=af.new (w.alloc o) T cs
 rwa [show (w.alloc o).heap.size=w.heap.size+1 by simp]at h
def Tm.rest:Tm->Prop
 |.mk k _ s _ args=>¬(k=5/\s.toList=[46]/\args.length=2)
end Go.Proofs.YtlhojoefhannnaaGreat

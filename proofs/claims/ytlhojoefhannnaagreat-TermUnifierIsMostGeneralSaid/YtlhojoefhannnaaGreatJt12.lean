/- fetterlockref2.text, shape and Shape at a valid term. Conditions: at most a hundred thousand nodes. And 9 more texts. -/
import Derived.Sort.Walk0
import Derived.Test.YtlhojoefhannnaaGreatJt11
set_option linter.unusedVariables false
set_option linter.unusedSimpArgs false
set_option maxRecDepth 100000
set_option maxHeartbeats 51200000
namespace Go.Proofs.YtlhojoefhannnaaGreat
open Go.RowKit NumB
theorem zj (v:Int) (w:World):Calls Tryz.prog 97 #[.int .i64 v] w fun e w'=>e=.returned (.agg #[.int .i64 1,.int .i64 v,.string ⟨#[]⟩,.bool false,.slice none 0 0,.slice none 0 0,.slice none 0 0])/\Below w.heap.size w w':=by
 go_enter Tryz.func97,Tryz.ntmps97;go_wp2_with fail;refine bodyPost_ret (v:=.agg #[.int .i64 1,.int .i64 v,.string ⟨#[]⟩,.bool false,.slice none 0 0,.slice none 0 0,.slice none 0 0]) (by rw[aD rfl];go_simp) rfl ?_;exact⟨rfl,I w _⟩
def Tm.var (v:Int):Tm:=.mk 1 v ⟨#[]⟩ ⟨false,[],[]⟩ []
theorem ep (w:World) (k:IntKind):Sl k w (.slice none 0 0) []:=(aK.nil_ (B:=0) (T:=0) w).sl
theorem TC.var (v:Int) (hv:an v) (w:World):TC w (.var v) [.int .i64 1,.int .i64 v,.string ⟨#[]⟩,.bool false,.slice none 0 0,.slice none 0 0,.slice none 0 0]:=
 .mk 1 v ⟨#[]⟩ ⟨false,[],[]⟩ [] (.slice none 0 0) (.slice none 0 0) none 0 (fun _=>[]) (by unfold an;omega) hv (by show 0<=_;omega) (ep w _) (ep w _) ⟨Ok.nil,Ok.nil⟩ (Nat.le_refl _) (by unfold maxLen;omega) (fun h=>absurd h (by simp)) (fun i h=>absurd h (by simp))
theorem pF (k v:Int) (s:ByteArray) (n:LN) (args:List Tm):cC (.mk k v s n args)=if k=1 then (⟨#[118]⟩:ByteArray)++⟨(dec v.toNat).toArray⟩ else if k=2 then (⟨#[110]⟩:ByteArray)++⟨(cO n.neg n.x n.y).toArray⟩ else if k=3 then (⟨#[97]⟩:ByteArray)++s else if k=4 then (⟨#[115]⟩:ByteArray)++s else ((⟨#[99]⟩:ByteArray)++Utf8.encode (48+(args.length:Int)))++s:=rfl
theorem uK (n:Nat):cC (.var (n:Int))=(⟨#[118]⟩:ByteArray)++⟨(dec n).toArray⟩:=by
 unfold Tm.var cC;dsimp only;rw[if_pos rfl,Int.toNat_natCast]
theorem qw {v:Int} (h0:0<=v) (h1:v<=1073741824) (er:Int):aJ 1 v ⟨#[]⟩ false 0 0 er 0=0:=by
 unfold aJ;rw[if_pos rfl,if_pos ⟨h0,h1,by decide +kernel,rfl,rfl⟩]
theorem mZ (a:UInt8) (b:ByteArray):((⟨#[a]⟩:ByteArray)++b).extract 1 ((⟨#[a]⟩:ByteArray)++b).size=b:=by
 apply ByteArray.ext
 have h1:(⟨#[a]⟩:ByteArray).size=1:=rfl;simp[ByteArray.data_extract,ByteArray.data_append]
 right
 omega
theorem ww (n:Nat) (hn:n<=1073741824) (w:World):Calls Tryz.prog 76 #[.int .i64 (n:Int)] w fun e w'=>e=.returned (.string ⟨(dec n).toArray⟩)/\Below w.heap.size w w':=by
 have HL:Hid (∀ W,Below w.heap.size w W->Calls Tryz.prog 75 #[.agg #[.int .i64 1,.int .i64 (n:Int),.string ⟨#[]⟩,.bool false,.slice none 0 0,.slice none 0 0,.slice none 0 0]] W fun e W'=>e=.returned (.string ((⟨#[118]⟩:ByteArray)++⟨(dec n).toArray⟩))/\Below W.heap.size W W'):=fun W hb=>by
  have:=lY (TC.var (n:Int) (by unfold an;omega) w) (qw (by omega) (by omega) _) W hb;rw[<-uK];exact this
 have HX:=zH (mZ 118 ⟨(dec n).toArray⟩);generalize (⟨(dec n).toArray⟩:ByteArray)=dn at*;have HS:Hid (((⟨#[118]⟩:ByteArray)++dn).size=1+dn.size):=by unfold Hid;simp[ByteArray.size_append];rfl
 generalize ((⟨#[118]⟩:ByteArray)++dn)=ln at*;have hs:=HS.out;clear hn;go_enter Tryz.func76,Tryz.ntmps76;go_wp2_with fail;refine (zj _ _).mono ?_;rintro e w1 ⟨rfl,hb1⟩;have HB1:=zH hb1;clear hb1;go_wp2_with fail;refine (HL.out _ HB1.out).mono ?_;rintro e w2 ⟨rfl,hb2⟩;have HB2:=zH (HB1.out.trans (hb2.mono HB1.out.size));clear hb2 HB1 HL;go_wp2_with fail;go_ret;exact⟨congrArg (fun x=>Ending.returned (.string x)) (by rw[<-hs];exact HX.out),HB2.out⟩
mutual
def Tm.shapeL:Tm->List UInt8
 |.mk k v s n args=>dec (cC (.mk k v s n args)).size++(58::((cC (.mk k v s n args)).data.toList++aM args))
def aM:List Tm->List UInt8
 |[]=>[]
 |t::l=>t.shapeL++aM l
end
theorem nI (l:List Tm) (t:Tm):aM (l++[t])=aM l++t.shapeL:=by
 induction l with
 |nil=>simp[aM]
 |cons x l ih=>simp[aM,ih]
theorem nJ (l:List Tm) {j:Nat} (hj:j<l.length):aM (l.take (j+1))=aM (l.take j)++(l[j]).shapeL:=by rw[di l hj,nI]
theorem iL {n:Nat} (h:n<1000000000000):(dec n).length<=1300:=by
 have h1:(ai cg n).length<=3:=aY bV (by unfold cg;omega);exact bp (by omega)
theorem lZ {k v:Int} {s:ByteArray} {n:LN} {args:List Tm} (hn:n.ok) (hv:aJ k v s n.neg n.num.length n.den.length n.err args.length=0):(cC (.mk k v s n args)).size<=5000:=by
 have hb:∀ l:List UInt8,(⟨l.toArray⟩:ByteArray).size=l.length:=fun l=>by simp[ByteArray.size]
 have h1:∀ c:UInt8,(⟨#[c]⟩:ByteArray).size=1:=fun c=>rfl;rw[pF];rcases aj hv with ⟨rfl,a1,a2,a3,a4⟩|⟨_,_,_,_,⟨rfl,a1,a2,a3,a4⟩|⟨rfl,a1,a2,a3⟩|⟨rfl,a1,a2,a3⟩|⟨rfl,a1,a2,a3,a4⟩⟩
 ·rw[if_neg (by decide),if_pos rfl,ByteArray.size_append,h1,hb];have hl:=LN.len16 hn a3;have hx:=bp hl.1;have hy:=bp hl.2;have hf:(cO n.neg n.x n.y).length<=2700:=by
   unfold cO
   (repeat' split)<;>simp<;>omega
  omega
 ·rw[if_pos rfl,ByteArray.size_append,h1,hb];have:=iL (n:=v.toNat) (by omega);omega
 ·rw[if_neg (by decide),if_neg (by decide),if_pos rfl,ByteArray.size_append,h1];omega
 ·rw[if_neg (by decide),if_neg (by decide),if_neg (by decide),if_pos rfl,ByteArray.size_append,h1];omega
 ·rw[if_neg (by decide),if_neg (by decide),if_neg (by decide),if_neg (by decide),ByteArray.size_append,ByteArray.size_append,h1];have he:(Utf8.encode (48+(args.length:Int))).size=1:=by
   have:∀ m:Fin 33,(Utf8.encode (48+(m.val:Int))).size=1:=by decide +kernel
   exact this ⟨args.length,by omega⟩
  omega
theorem jo {l:List Tm} (h:∀ i (hi:i<l.length),(l[i]).shapeL.length<=10000*(l[i]).count):(aM l).length<=10000*al l:=by
 induction l with
 |nil=>simp[aM]
 |cons x l ih=>
  have h0:=h 0 (by simp);have h1:=ih fun i hi=>h (i+1) (Nat.succ_lt_succ hi);simp[aM,al]at*;omega
theorem TC.shape_len {w:World} {t:Tm} {cs:List Value} (h:TC w t cs):t.err0=0->t.shapeL.length<=10000*t.count:=by
 induction h with
 |mk k v s n args A B Ar cap cs hk hv hs hA hB hn hcap hm hr ha ih=>
  intro he;obtain⟨h1,h2⟩:=br he;have h3:=lZ hn h1;have h4:=jo fun i hi=>ih i hi (dm h2 hi);have h5:=iL (n:=(cC (.mk k v s n args)).size) (by omega);have h6:∀ b:ByteArray,b.data.toList.length=b.size:=fun b=>Array.length_toList;have h7:(Tm.mk k v s n args).count=1+al args:=rfl;rw[Tm.shapeL,h7];generalize cC (.mk k v s n args)=lb at*;simp only[List.length_append,List.length_cons,h6];omega
theorem ut (B:Nat) {w:World} (hBw:w.heap.size<=B) {t:Tm} {cs:List Value} (h:TC w t cs):t.err0=0->∀ (ls:List UInt8) (ov:Value),ls.length+10000*t.count<=1000000000->∀ (W:World),Below w.heap.size w W->B<=W.heap.size->RB W B ov ls->
 Calls Tryz.prog 50 #[ov,.agg cs.toArray] W fun e W'=>∃ ov',e=.returned ov'/\RB W' B ov' (ls++t.shapeL)/\AB B W W':=by
 have h':=h
 induction h with
 |mk k v s n args A C Ar cap cs hk hv hs hA hB hn hcap hm hr ha ih=>
  intro he ls ov hcn W hW hBW hF;obtain⟨hv1,hv2⟩:=br he;have HR:=zH hr;have HA:=zH ha;have IH:Hid (∀ i (hi:i<args.length) (ls:List UInt8) (ov:Value),ls.length+10000*(args[i]).count<=1000000000->∀ (W:World),Below w.heap.size w W->B<=W.heap.size->RB W B ov ls->
   Calls Tryz.prog 50 #[ov,.agg (cs i).toArray] W fun e W'=>∃ ov',e=.returned ov'/\RB W' B ov' (ls++(args[i]).shapeL)/\AB B W W'):=fun i hi=>ih i hi (ha i hi) (dm hv2 hi)
  have HSH:Hid (∀ j,(hj:j<=args.length)->(aM (args.take j)).length<=10000*al (args.take j)):=fun j hj=>jo fun i hi=>by
   rw[List.getElem_take];exact (ha i _).shape_len (dm hv2 _)
  have HCT:Hid ((Tm.mk k v s n args).count=1+al args):=rfl;have HLL:=zH (lZ hn hv1);have HLA:=zH (lY h' hv1);have HFE:Hid ((Tm.mk k v s n args).shapeL=dec (cC (.mk k v s n args)).size++(58::((cC (.mk k v s n args)).data.toList++aM args))):=by unfold Hid;rw[Tm.shapeL]
  have HCN:=zH hcn;unfold maxLen at hm;have HWB:=zH hW;have HBS:=zH hBW;have HF0:=zH hF;obtain⟨A9,c9,rfl⟩:=hF.form;generalize (Tm.mk k v s n args).count=ct at*;generalize (Tm.mk k v s n args).shapeL=fe at*;generalize (cC (.mk k v s n args))=lb at*;obtain⟨ln,HLN⟩:∃ m,Hid (lb.size=m):=⟨_,rfl⟩;have hln:ln<=5000:=by rw[<-HLN.out];exact HLL.out
  generalize n.neg=ng at*;obtain⟨A1,q1,rfl,_⟩:=hA;obtain⟨B1,q2,rfl,_⟩:=hB;generalize n.num.length=m1 at*;generalize n.den.length=m2 at*;clear hr ha ih hn hk hs hW hcn hBW hF h' he hv1 hv2 hv;obtain⟨l,hl⟩:∃ l,args.length=l:=⟨_,rfl⟩;rw[hl]at hcap HLA ⊢;have HL:=zH hl;clear hl;have HBA:Hid (Below W.heap.size W (W.alloc (.cells #[.int .i64 k,.int .i64 v,.string s,.bool ng,.slice A1 m1 q1,.slice B1 m2 q2,.slice Ar l cap] 27))):=I W _;have HT1:Hid (af (W.alloc (.cells #[.int .i64 k,.int .i64 v,.string s,.bool ng,.slice A1 m1 q1,.slice B1 m2 q2,.slice Ar l cap] 27)) W.heap.size 27 #[.int .i64 k,.int .i64 v,.string s,.bool ng,.slice A1 m1 q1,.slice B1 m2 q2,.slice Ar l cap]):=af.new W _ _;have HTX:Hid (∀ W',Calls Tryz.prog 76 #[.int .i64 (ln:Int)] W' fun e w'=>e=.returned (.string ⟨(dec ln).toArray⟩)/\Below W'.heap.size W' w'):=fun W'=>ww ln (by omega) W';obtain⟨dl,HDL⟩:∃ d,Hid (dec ln=d):=⟨_,rfl⟩;have hdl:dl.length<=1300:=by rw[<-HDL.out];exact iL (by omega)
  rw[HDL.out]at HTX;have HDZ:Hid ((⟨dl.toArray⟩:ByteArray).size<=1300):=by show _<=_;simpa[ByteArray.size] using hdl
  have HFE2:Hid (fe=dl++(58::(lb.data.toList++aM args))):=by have:=HFE.out;rw[HLN.out,HDL.out]at this;exact this
  have HS1:Hid (ls.length<=1000000000):=by have:=HCN.out;show _<=_;omega
  have HDD:Hid ((⟨dl.toArray⟩:ByteArray).data.toList=dl):=by unfold Hid;simp
  have HBD:=zH hdl;have hlm:lb.size=ln:=HLN.out;clear HFE hdl;go_enter Tryz.func50,Tryz.ntmps50;go_wp2_with fail;refine (HLA.out _ (by exact HWB.out.trans (HBA.out.mono HWB.out.size))).mono ?_;rintro e w1 ⟨rfl,hb1⟩;have HB1:=zH (HBA.out.trans (hb1.mono HBA.out.size));have HK1:=zH (HT1.out.to hb1);clear hb1 HBA HT1 HLA;go_wp2_with fail;refine (HTX.out _).mono ?_;rintro e w2 ⟨rfl,hb2⟩;have HB2:=zH (HB1.out.trans (hb2.mono HB1.out.size));have HF2:=zH ((HF0.out.below HB1.out).below hb2);have HK2:=zH (HK1.out.to hb2);clear hb2 HB1 HK1 HTX;have H1:Hid (ls.length+(⟨dl.toArray⟩:ByteArray).size<=100000000000):=by have:=HS1.out;have:=HDZ.out;show _<=_;omega
  have H2:Hid ((ls++dl).length+1<=100000000000):=by have:=HS1.out;have:=HBD.out;show _<=_;rw[List.length_append];omega
  have H3:Hid ((ls++dl++[58]).length+lb.size<=100000000000):=by have:=HS1.out;have:=HBD.out;have:=HCN.out;have:=HLL.out;have:=HCT.out;show _<=_;simp only[List.length_append,List.length_cons,List.length_nil];omega
  go_wp2_with (first
   |(at_builtin;refine sV w2 rfl _ _ rfl B _ ls ⟨dl.toArray⟩ rfl rfl HF2.out H1.out (Nat.le_trans HBS.out HB2.out.size) ?_;intro A3 n3 c3 w3 hr3 hb3;have HF3:Hid (RB w3 B (.slice A3 n3 c3) (ls++dl)):=hr3;have HB3:=zH hb3;clear hr3 hb3)
   |(at_builtin;refine wG w3 58 58 rfl _ _ rfl B (.slice A3 n3 c3) (ls++dl) (by rfl) (by rfl) HF3.out H2.out (Nat.le_trans HBS.out (Nat.le_trans HB2.out.size HB3.out.size)) rfl ?_;intro A4 n4 c4 w4 hr4 hb4;have HF4:=zH hr4;have HB4:=zH hb4;clear hr4 hb4)
   |(at_builtin;refine sV w4 rfl _ _ rfl B (.slice A4 n4 c4) (ls++dl++[58]) lb (by rfl) (by rfl) HF4.out H3.out (Nat.le_trans HBS.out (Nat.le_trans HB2.out.size (Nat.le_trans HB3.out.size HB4.out.size))) ?_;intro A5 n5 c5 w5 hr5 hb5;have HF5:=zH hr5;have HB5:=zH ((HB3.out.trans HB4.out).trans hb5);have HK5:=zH (HK2.out.ab HB5.out (by decide));have t6:=HK5.out.cell 6;simp only[L3]at t6;clear hr5 hb5))
  have HE:Hid (ls++fe=(ls++dl++[58]++lb.data.toList)++aM args):=by rw[HFE2.out];simp[Hid]
  have HLS:Hid ((ls++dl++[58]++lb.data.toList).length+10000*al args<=1000000000):=by
   have:=HCN.out;have:=HCT.out;have:=HLL.out;have:=HBD.out;have e:lb.data.toList.length=lb.size:=Array.length_toList;show _<=_;simp only[List.length_append,List.length_cons,List.length_nil,e];omega
  generalize hg:ls++dl++[58]++lb.data.toList=l5 at*;have HB0:Hid (AB B W w5):=(AB.of_below HB2.out HBS.out).trans HB5.out;have HY:Hid (RB w5 B (.slice A5 n5 c5) (l5++aM (args.take 0))/\AB B W w5):=⟨by rw[List.take_zero];simpa[aM] using HF5.out,HB0.out⟩;clear hg H1 H2 H3 HF2 HF3 HF4 HF5 HB2 HB3 HB4 HB5 HK2 HK5 HF0 HFE2 HDD HBD HDZ HDL HS1 hln HLN hlm HLL t6;generalize (Value.slice A5 n5 c5)=v5 at*
  go_loopg [0,24] l (fun gk s0 s24 wr=>∃ (j:Nat) (ow:Value),gk+j=l/\s24=.int .i64 (j:Int)/\ow=s0/\Hid (RB wr B ow (l5++aM (args.take j))/\AB B W wr))
  case atStart=>exact⟨0,_,by omega,rfl,rfl,HY⟩
  case round=>
   clear HY HB0;obtain⟨j,ow,hgj,rfl,rfl,HJ⟩:=hrel;by_cases hj:j<l
   ·have hja:j<args.length:=by rw[HL.out];exact hj
    have HBW:Below w.heap.size w wr:=HWB.out.trans (HJ.out.2.1.mono hBw);obtain⟨b,o,k',v',s',ng',A2,n2,c2,B2,m3,d2,Xr,xl,xc,hAr,hcs,hlt,e0,e1,e2,e3,e4,e5,e6⟩:=aO HR.out HA.out HBW hja;subst hAr;have h1:=bF args hja;have h5:=cW args (j+1);have h6:=HSH.out j (by omega);have h7:=HLS.out;have HCALL:Hid (∀ W',Below wr.heap.size wr W'->Calls Tryz.prog 50 #[ow,.agg #[.int .i64 k',.int .i64 v',.string s',.bool ng',.slice A2 n2 c2,.slice B2 m3 d2,.slice Xr xl xc]] W' fun e w'=>∃ ow',e=.returned ow'/\Hid (RB w' B ow' (l5++aM (args.take (j+1)))/\AB B W w')):=fun W' hb=>by
     have hB':B<=wr.heap.size:=Nat.le_trans HBS.out HJ.out.2.size;have hbB:AB B wr W':=AB.of_below hb hB';have:=IH.out j hja (l5++aM (args.take j)) ow (by rw[List.length_append];omega) W' (HBW.trans (hb.mono HBW.size)) (Nat.le_trans hB' hb.size) (HJ.out.1.below hb);rw[hcs]at this;refine this.mono ?_;rintro e w' ⟨ow',rfl,q1,q2⟩;rw[nJ args hja];exact⟨ow',rfl,by rw[<-List.append_assoc];exact q1,(HJ.out.2.trans hbB).trans q2⟩
    clear h1 h5 h6 h7;go_wp2_with fail;refine (HCALL.out _ (by exact I _ _)).mono ?_;rintro e w3 ⟨ow',rfl,HJ3⟩;clear e0 e1 e2 e3 e4 e5 e6 HCALL;go_wp2_with fail
    go_roundg (gk-1)
    case measure=>omega
    case rel=>exact⟨j+1,ow',by omega,by go_num,rfl,HJ3⟩
   ·obtain rfl:j=l:=by omega
    have h2:=HJ.out;rw[List.take_of_length_le (by rw[HL.out];exact Nat.le_refl _),<-HE.out]at h2;have HJ2:=zH h2;clear h2 HJ;go_wp2_with fail;go_ret;exact⟨ow,rfl,HJ2.out.1,HJ2.out.2⟩
theorem ry {w:World} {t:Tm} {cs:List Value} (h:TC w t cs) (he:t.err0=0) (hc:t.count<=10000) (W:World) (hW:Below w.heap.size w W):
 Calls Tryz.prog 20 #[.agg cs.toArray] W fun e W'=>e=.returned (.string ⟨t.shapeL.toArray⟩)/\Below W.heap.size W W':=by
 have HS:Hid (∀ W',Below W.heap.size W W'->Calls Tryz.prog 50 #[.slice none 0 0,.agg cs.toArray] W' fun e w'=>∃ ov,e=.returned ov/\(convert 83 9 ov).run Tryz.prog w'=.ok (.string ⟨t.shapeL.toArray⟩) w'/\Hid (Below W.heap.size W w')):=fun W' hb=>by
  refine (ut W.heap.size hW.size h he [] (.slice none 0 0) (by simp;omega) W' (hW.trans (hb.mono hW.size)) hb.size (RB.nil _ _)).mono ?_;rintro e w' ⟨ov,rfl,q1,q2⟩;have h0:0<([]++t.shapeL).length:=by cases t;rw[Tm.shapeL];simp;omega
  exact⟨ov,rfl,by simpa using q1.text h0,hb.trans q2.1⟩
 obtain⟨k,v,s,ng,A1,n1,c1,B1,m1,d1,Ar,l,cap,hcs⟩:=h.form;subst hcs;generalize (⟨t.shapeL.toArray⟩:ByteArray)=sh at*;clear h he hc hW;go_enter Tryz.func20,Tryz.ntmps20;go_wp2_with fail;refine (HS.out _ (by exact I _ _)).mono ?_;rintro e w1 ⟨ov,rfl,hcv,HB⟩;go_wp2_with fail;go_ret;exact⟨rfl,HB.out⟩
theorem nh {w:World} {t:Tm} {cs:List Value} (h:TC w t cs) (he:t.err0=0) (hc:t.count<=10000) (W:World) (hW:Below w.heap.size w W):
 Calls Tryz.prog 6 #[.agg cs.toArray] W fun e W'=>e=.returned (.string ⟨t.shapeL.toArray⟩)/\Below W.heap.size W W':=by
 have HS:Hid (∀ W',Below W.heap.size W W'->Calls Tryz.prog 20 #[.agg cs.toArray] W' fun e w'=>e=.returned (.string ⟨t.shapeL.toArray⟩)/\Hid (Below W.heap.size W w')):=fun W' hb=>by
  refine (ry h he hc W' (hW.trans (hb.mono hW.size))).mono ?_;rintro e w' ⟨rfl,q2⟩;exact⟨rfl,hb.trans (q2.mono hb.size)⟩
 have hk0:∀ k v s b A B C,cs=[.int .i64 k,.int .i64 v,.string s,.bool b,A,B,C]->(k==0)=false:=fun k v s b A B C e=>by
  cases h with
  |mk k' v' s' n args A' B' Ar cap cs hk hv hs hA hB hn hcap hm hr ha=>
   simp only[List.cons.injEq,Value.int.injEq,true_and]at e;obtain⟨rfl,_⟩:=e;rw[beq_eq_false_iff_ne];rcases aj (br he).1 with ⟨rfl,_⟩|⟨_,_,_,_,⟨rfl,_⟩|⟨rfl,_⟩|⟨rfl,_⟩|⟨rfl,_⟩⟩<;>decide
 obtain⟨k,v,s,ng,A1,n1,c1,B1,m1,d1,Ar,l,cap,hcs⟩:=h.form;subst hcs;have hk1:=hk0 _ _ _ _ _ _ _ rfl;generalize (⟨t.shapeL.toArray⟩:ByteArray)=sh at*;clear h he hc hW hk0;go_enter Tryz.func6,Tryz.ntmps6;go_wp2_with fail;refine (HS.out _ (by exact I _ _)).mono ?_;rintro e w1 ⟨rfl,HB⟩;go_wp2_with fail;go_ret;exact⟨rfl,HB.out⟩
end Go.Proofs.YtlhojoefhannnaaGreat
namespace Go.Proofs.YtlhojoefhannnaaGreat
open Go.ChangeShapes Go.WideShapes Go.ChangeAt Go.RowKit Go.Joins Go.Deep NumB
def Tm.cell (x r:Tm):Tm:=.mk 5 0 ⟨#[46]⟩ ⟨false,[],[]⟩ [x,r]
def rY (b:Nat):List Value:=[.int .i64 5,.int .i64 0,.string ⟨#[46]⟩,.bool false,.slice none 0 0,.slice none 0 0,.slice (some ⟨b,0,none⟩) 2 2]
theorem TC.cell {W:World} {b:Nat} {x r:Tm} {k0 v0 k1 v1:Int} {s0 s1:ByteArray} {n0 n1:Bool} {p0 p1 p2 q0 q1 q2:Value}
 (h:af W b 27 #[.int .i64 k0,.int .i64 v0,.string s0,.bool n0,p0,p1,p2,.int .i64 k1,.int .i64 v1,.string s1,.bool n1,q0,q1,q2])
 (hx:TC W x [.int .i64 k0,.int .i64 v0,.string s0,.bool n0,p0,p1,p2]) (hr:TC W r [.int .i64 k1,.int .i64 v1,.string s1,.bool n1,q0,q1,q2]):
 TC W (.cell x r) (rY b):=
 .mk 5 0 ⟨#[46]⟩ ⟨false,[],[]⟩ [x,r] (.slice none 0 0) (.slice none 0 0) (some ⟨b,0,none⟩) 2 (fun i=>if i=0 then [.int .i64 k0,.int .i64 v0,.string s0,.bool n0,p0,p1,p2] else [.int .i64 k1,.int .i64 v1,.string s1,.bool n1,q0,q1,q2]) ⟨by decide,by decide⟩ ⟨by decide,by decide⟩ (by decide) (ep W _) (ep W _) ⟨Ok.nil,Ok.nil⟩ (Nat.le_refl _) (by decide)
  (fun _=>⟨b,0,rfl,h.lt,fun i hi j hj=>by
   have hi:i<2:=hi;rw[h.cell];have h01:i=0\/i=1:=by omega
   have h07:j=0\/j=1\/j=2\/j=3\/j=4\/j=5\/j=6:=by omega
   rcases h01 with rfl|rfl<;>rcases h07 with rfl|rfl|rfl|rfl|rfl|rfl|rfl<;>rfl⟩)
  (fun i hi=>by
   have hi:i<2:=hi;have:i=0\/i=1:=by omega
   rcases this with rfl|rfl
   ·exact hx
   ·exact hr)
theorem uj {H:Type} {enc:TypeId×Value->H} {W:World} {α:Type} [Inhabited α] (E ST K:Nat) (hu:Tryz.prog.underlying ST=some (.slice E)) (hK:Tryz.prog.cellsOf E=K) (hK0:0<K)
 (R:α->List Value->Prop) (hlen:∀ t cs,R t cs->cs.length=K) (hopen:∀ n cs y,DataW.trod enc Tryz.prog W 0 (fun _=>true) true n E cs=some y->∃ t,R t cs)
 {n:Nat} {v:Value} {y:DataW H×List MemPlace} (h:DataW.trod enc Tryz.prog W 0 (fun _=>true) true n ST [v]=some y):
 ∃ (ts:List α) (Ar:Option Addr) (cap:Nat) (cs:Nat->List Value),v=.slice Ar ts.length cap/\ts.length<=cap/\cap<=maxLen/\
  (0<ts.length->∃ b o,Ar=some ⟨b,o,none⟩/\b<W.heap.size/\∀ i,i<ts.length->∀ j,j<K->W.cell? ⟨b,o+i*K+j,none⟩=(cs i)[j]?)/\(∀ i (h:i<ts.length),R ts[i] (cs i))/\
  ((y.1=.nil/\ts.length=0)\/∃ es rs,y.1=.slice es rs/\es.length=ts.length):=by
 rcases DataW.trod_slice hu h with ⟨h6,hy⟩|⟨a,len,cap,elems,rest,n',hn',h6,hy,_,hlc,hcm,hel,hx,_,_⟩
 ·simp only[List.cons.injEq,and_true]at h6;subst h6;exact⟨[],none,0,fun _=>[],rfl,Nat.le_refl _,by unfold maxLen;omega,fun h=>absurd h (by simp),fun i h=>absurd h (by simp),.inl ⟨by rw[hy],rfl⟩⟩
 ·simp only[List.cons.injEq,and_true]at h6;subst h6;rw[hK]at hx;have hx2:∀ i,i<len->∃ p:α×List Value,W.cells? 0 (a.add (i*K)) K=some p.2/\R p.1 p.2:=fun i hi=>by
   have h1:=hx i hi;rw[List.getElem?_eq_getElem (by omega)]at h1;obtain⟨cs',h2,h3⟩:=Option.bind_eq_some_iff.1 h1;obtain⟨t,ht⟩:=hopen n' cs' _ h3;exact⟨(t,cs'),h2,ht⟩
  obtain⟨f,hf⟩:=ij hx2;have hget:∀ (i:Nat) (h:i<((List.range len).map fun i=>(f i).1).length),((List.range len).map fun i=>(f i).1)[i]=(f i).1:=fun i h=>by simp
  have hll:((List.range len).map fun i=>(f i).1).length=len:=by simp
  refine⟨(List.range len).map fun i=>(f i).1,some a,cap,fun i=>(f i).2,by rw[hll],by rw[hll];exact hlc,hcm,fun h0=>?_,fun i hi=>?_,.inr ⟨_,_,by rw[hy],by rw[hll,List.length_map];exact hel⟩⟩
  ·rw[hll]at h0 ⊢;obtain⟨_,_,hc0⟩:=World.cells?_some (hf 0 h0).1;obtain⟨b',off,spot⟩:=a;have hq:=hc0 0 (by omega);rw[List.getElem?_eq_getElem (by rw[hlen _ _ (hf 0 h0).2];omega)]at hq;have hspot:spot=none:=by simpa[Addr.add] using World.cell?_spot hq
   subst hspot;refine⟨b',off,rfl,?_,fun i hi j hj=>?_⟩
   ·rcases Nat.lt_or_ge b' W.heap.size with h1|h1
    ·exact h1
    ·simp[World.cell?,Addr.add,Array.getElem?_eq_none h1]at hq
   ·obtain⟨_,_,hci⟩:=World.cells?_some (hf i hi).1;have:=hci j hj;rw[add_add]at this;rw[<-this,Go.WideShapes.add_plain,Nat.add_assoc]
  ·rw[hget i hi];exact (hf i (by simpa using hi)).2
theorem rO {H:Type} {ST E B n:Nat} {T:List TypeId} {d:DataW H} {D:List (DataW H)} (hu:Tryz.prog.underlying ST=some (.slice E)) (hB:Tryz.prog.bytesOf E=B)
 (h:(DataW.weightsEach Tryz.prog (ST::T) (d::D)).all (· <= reachBytes)=true) (hd:(d=.nil/\n=0)\/∃ es rs,d=.slice es rs/\es.length=n):n*B<=140737488351232:=by
 rcases hd with ⟨_,rfl⟩|⟨es,rs,rfl,rfl⟩
 ·omega
 ·rw[DataW.weightsEach,DataW.weights,hu]at h;simp only[List.cons_append,List.all_cons,Bool.and_eq_true,decide_eq_true_eq,hB]at h;have h1:=h.1;unfold reachBytes at h1;have h2:es.length*B<=(es.length+rs.length)*B:=Nat.mul_le_mul_right _ (by omega);omega
end Go.Proofs.YtlhojoefhannnaaGreat
namespace Go.Proofs.YtlhojoefhannnaaGreat
open Go.ChangeShapes Go.WideShapes Go.ChangeAt Go.RowKit Go.Joins Go.Deep NumB
def BC (w:World) (p:Int×Tm) (cs:List Value):Prop:=∃ ct,cs=.int .i64 p.1::ct/\an p.1/\TC w p.2 ct
theorem BC.len {w:World} {p:Int×Tm} {cs:List Value} (h:BC w p cs):cs.length=8:=by
 obtain⟨ct,rfl,_,ht⟩:=h;rw[List.length_cons,ht.len]
def BL (w:World) (v:Value) (ts:List (Int×Tm)):Prop:=∃ (Ar:Option Addr) (cap:Nat) (cs:Nat->List Value),v=.slice Ar ts.length cap/\ts.length<=cap/\cap<=maxLen/\
 (0<ts.length->∃ b o,Ar=some ⟨b,o,none⟩/\b<w.heap.size/\∀ i,i<ts.length->∀ j,j<8->w.cell? ⟨b,o+i*8+j,none⟩=(cs i)[j]?)/\∀ i (h:i<ts.length),BC w ts[i] (cs i)
theorem dR {w W:World} {args:List (Int×Tm)} {Ar:Option Addr} {cs:Nat->List Value} (hr:0<args.length->∃ b o,Ar=some ⟨b,o,none⟩/\b<w.heap.size/\∀ i,i<args.length->∀ j,j<8->w.cell? ⟨b,o+i*8+j,none⟩=(cs i)[j]?)
 (ha:∀ i (h:i<args.length),BC w args[i] (cs i)) (hb:Below w.heap.size w W) {j:Nat} (hj:j<args.length):
 ∃ b o k v s ng A1 n1 c1 B1 m1 d1 Xr l cap,Ar=some ⟨b,o,none⟩/\TC w (args[j]).2 [.int .i64 k,.int .i64 v,.string s,.bool ng,.slice A1 n1 c1,.slice B1 m1 d1,.slice Xr l cap]/\b<w.heap.size/\
  W.cell? ⟨b,o+j*8,none⟩=some (.int .i64 (args[j]).1)/\W.cell? ⟨b,o+j*8+1,none⟩=some (.int .i64 k)/\W.cell? ⟨b,o+j*8+2,none⟩=some (.int .i64 v)/\W.cell? ⟨b,o+j*8+3,none⟩=some (.string s)/\W.cell? ⟨b,o+j*8+4,none⟩=some (.bool ng)/\
  W.cell? ⟨b,o+j*8+5,none⟩=some (.slice A1 n1 c1)/\W.cell? ⟨b,o+j*8+6,none⟩=some (.slice B1 m1 d1)/\W.cell? ⟨b,o+j*8+7,none⟩=some (.slice Xr l cap):=by
 obtain⟨b,o,e,hlt,hc⟩:=hr (by omega);obtain⟨ct,hcs,hi,ht⟩:=ha j hj;obtain⟨k,v,s,ng,A1,n1,c1,B1,m1,d1,Xr,l,cap,hf⟩:=ht.form;subst hf;have h:=fun q (hq:q<8)=>(hb.cell (p:=⟨b,o+j*8+q,none⟩) hlt).trans (hc j hj q hq);rw[hcs]at h;exact⟨b,o,k,v,s,ng,A1,n1,c1,B1,m1,d1,Xr,l,cap,e,ht,hlt,h 0 (by omega),h 1 (by omega),h 2 (by omega),h 3 (by omega),h 4 (by omega),h 5 (by omega),h 6 (by omega),h 7 (by omega)⟩
theorem ui {H:Type} {enc:TypeId×Value->H} {W:World} (n:Nat) (cs:List Value) (y:DataW H×List MemPlace) (h:DataW.trod enc Tryz.prog W 0 (fun _=>true) true n 37 cs=some y):∃ p,BC W p cs:=by
 obtain⟨xs,k,hk,hxy,hl,hxl,hf⟩:=DataW.trod_struct Tryz.underlying37 h;have hl8:cs.length=8:=hl
 match cs,hl8,xs,hxl with
 |[c0,c1,c2,c3,c4,c5,c6,c7],_,[x0,x1],_=>
  have g0:DataW.trod enc Tryz.prog W 0 (fun _=>true) true k 3 (List.take (Tryz.prog.cellsOf 3) (List.drop 0 [c0,c1,c2,c3,c4,c5,c6,c7]))=some x0:=hf 0 _ rfl;have g1:DataW.trod enc Tryz.prog W 0 (fun _=>true) true k 27 (List.take (Tryz.prog.cellsOf 27) (List.drop 1 [c0,c1,c2,c3,c4,c5,c6,c7]))=some x1:=hf 1 _ rfl;have k0:Tryz.prog.cellsOf 3=1:=by kernel_rfl
  have k5:Tryz.prog.cellsOf 27=7:=by kernel_rfl
  simp only[k0,k5,List.drop_zero,List.drop_succ_cons,List.take_succ_cons,List.take_zero]at g0 g1;obtain⟨z0,e0,w0⟩:=dW Tryz.underlying3 g0;obtain⟨t,ht⟩:=sF _ _ _ g1;subst e0;exact⟨(z0,t),_,rfl,w0,ht⟩
theorem qx {H:Type} {U ST E B n:Nat} {T:List TypeId} {d0 d:DataW H} {D:List (DataW H)} (hu:Tryz.prog.underlying ST=some (.slice E)) (hB:Tryz.prog.bytesOf E=B)
 (h:(DataW.weightsEach Tryz.prog (U::ST::T) (d0::d::D)).all (· <= reachBytes)=true) (hd:(d=.nil/\n=0)\/∃ es rs,d=.slice es rs/\es.length=n):n*B<=140737488351232:=by
 rw[DataW.weightsEach,List.all_append,Bool.and_eq_true]at h;exact rO hu hB h.2 hd
theorem ru {H:Type} {enc:TypeId×Value->H} {W:World} {v:Value} {d:DataW H} {p:List MemPlace} {base:Nat}
 (hv:Value.okWide Tryz.prog W .any base 28 v) (h:DataW.Trod enc Tryz.prog W 0 (fun _=>true) true 28 v d p):∃ ts,BL W v ts/\((d=.nil/\ts.length=0)\/∃ es rs,d=.slice es rs/\es.length=ts.length):=by
 obtain⟨a,len,cap,rfl⟩:=okWide_slice Tryz.underlying28 hv;obtain⟨fuel,hf⟩:=h;obtain⟨ts,Ar,cap',cs,h1,h2,h3,h4,h5,h6⟩:=uj 37 28 8 Tryz.underlying28 (by kernel_rfl) (by omega) (BC W) (fun t cs h=>h.len) (fun n cs y h=>ui n cs y h) hf;exact⟨ts,⟨Ar,cap',cs,h1,h2,h3,h4,h5⟩,h6⟩
end Go.Proofs.YtlhojoefhannnaaGreat
namespace Go.Proofs.YtlhojoefhannnaaGreat
open Go.RowKit NumB
def yS (na:Bool) (xa ya:Nat) (nb:Bool) (xb yb:Nat):Int:=if na=nb then (if na then -ee (xa*yb) (xb*ya) else ee (xa*yb) (xb*ya)) else if na then -1 else 1
def yT (a b:LN):Int:=yS a.neg a.x a.y b.neg b.x b.y
def vX (p q:Rat):Int:=if p<q then -1 else if q<p then 1 else 0
theorem uk (p q:Rat):vX p q=0↔p=q:=by unfold vX;grind
theorem qa (n:Bool) (x y:Nat):RatB.sg n x*(y:Int)=RatB.sg n (x*y):=by
 unfold RatB.sg;cases n<;>simp[Int.neg_mul]
theorem Ad {na nb:Bool} {xa ya xb yb:Nat} (ca:RatB.Canon na xa ya) (cb:RatB.Canon nb xb yb):RatB.q na xa ya<RatB.q nb xb yb↔RatB.sg na (xa*yb)<RatB.sg nb (xb*ya):=by
 rw[Rat.lt_iff,(RatB.q_num ca).1,(RatB.q_num ca).2,(RatB.q_num cb).1,(RatB.q_num cb).2,qa,qa]
theorem vc {na nb:Bool} {xa ya xb yb:Nat} (ca:RatB.Canon na xa ya) (cb:RatB.Canon nb xb yb):yS na xa ya nb xb yb=vX (RatB.q na xa ya) (RatB.q nb xb yb):=by
 have h1:=Ad ca cb;have h2:=Ad cb ca;have p1:na=true->0<xa*yb:=fun h=>Nat.mul_pos (Nat.pos_of_ne_zero fun h0=>by have:=ca.2.2 h0;rw[h]at this;cases this) cb.1;have p2:nb=true->0<xb*ya:=fun h=>Nat.mul_pos (Nat.pos_of_ne_zero fun h0=>by have:=cb.2.2 h0;rw[h]at this;cases this) ca.1;unfold vX;simp only[h1,h2];clear h1 h2;unfold yS ee;generalize xa*yb=X at*;generalize xb*ya=Y at*;unfold RatB.sg;cases na<;>cases nb<;>simp only[if_true,if_false,Bool.false_eq_true,Bool.true_eq_false]
 ·split<;>split<;>(try split)<;>(try split)<;>omega
 ·have:=p2 rfl
  split<;>(try split)<;>omega
 ·have:=p1 rfl
  split<;>omega
 ·split<;>split<;>(try split)<;>(try split)<;>omega
theorem LN.q_eq {a b:LN} (ha:a.ok) (hb:b.ok) (ea:a.err=0) (eb:b.err=0) (h:a.q=b.q):a=b:=by
 obtain⟨p1,p2,_,_,p5⟩:=LN.good ha ea;obtain⟨q1,q2,_,_,q5⟩:=LN.good hb eb;obtain⟨e1,e2,e3⟩:=RatB.q_inj p5 q5 h;obtain⟨na,xa,ya⟩:=a;obtain⟨nb,xb,yb⟩:=b;have h1:xa=xb:=by rw[<-show ai ag _=xa from p1,<-show ai ag _=xb from q1,e2]
 have h2:ya=yb:=by rw[<-show ai ag _=ya from p2,<-show ai ag _=yb from q2,e3]
 have h3:na=nb:=e1;rw[h1,h2,h3]
theorem vd {a b:LN} (ha:a.ok) (hb:b.ok) (ea:a.err=0) (eb:b.err=0):yT a b=vX a.q b.q:=vc (LN.good ha ea).2.2.2.2 (LN.good hb eb).2.2.2.2
theorem oS {d:Nat} (h:d<10):(48+d).toUInt8.toNat=48+d:=by
 show (48+d) % 256=48+d;omega
theorem qY {d:Nat} (h:d<10):pz (48+d).toUInt8=true:=decide_eq_true (by rw[oS h];omega)
theorem oY:∀ (l:List Nat),Ok 10 l->gH (l.map fun d=>(48+d).toUInt8).reverse=val 10 l
 |[],_=>rfl
 |d::l,h=>by
  rw[List.map_cons,List.reverse_cons,oW,oY l h.tail,val_cons];have:gH [(48+d).toUInt8]=d:=by
   show 0*10+((48+d).toUInt8.toNat-48)=d;rw[oS h.head];omega
  rw[this];simp;omega
theorem dS (x:Nat):gH (dec x)=x:=by
 unfold dec
 split
 ·rename_i h;rw[h];rfl
 ·unfold jy;rw[oY _ (bz (by decide) x),aR (by decide)]
theorem cV (x:Nat):dD (dec x)=true:=by
 unfold dec
 split
 ·rfl
 ·unfold jy dD;rw[List.all_eq_true];intro c hc;obtain⟨d,hd,rfl⟩:=List.mem_map.1 (List.mem_reverse.1 hc);exact qY (bz (by decide) x d hd)
theorem vm (x:Nat):dec x≠[]:=by
 unfold dec
 split
 ·simp
 ·rename_i h;exact xj h
theorem jb (x:Nat):jH (dec x)=true:=by
 unfold jH;rw[cV,Bool.and_true];cases h:dec x with
 |nil=>exact absurd h (vm x)
 |cons _ _=>rfl
theorem wY:ag ^ 128<=10 ^ 1234:=by decide +kernel
theorem oP {x:Nat} (h:(ai ag x).length<=128):(dec x).length<=1234:=by
 have h1:(ai 10 x).length<=1234:=aY (by decide) (Nat.lt_of_lt_of_le (eZ az) (Nat.le_trans (Nat.pow_le_pow_right (by decide) h) wY));unfold dec
 split
 ·simp
 ·unfold jy;rw[List.length_reverse,List.length_map];exact h1
theorem kz {l:List UInt8} (h:dD l=true) {c:UInt8} (hc:pz c=false):c∉l:=fun hm=>by
 have:=List.all_eq_true.1 h c hm;rw[hc]at this;cases this
theorem fR:∀ {l:List UInt8} {c:UInt8},c∉l->Lib.indexByte l c = -1
 |[],_,_=>rfl
 |b::l,c,h=>by
  have h1:(b==c)=false:=beq_eq_false_iff_ne.2 fun e=>h (by simp[e]);have h2:=fR (l:=l) (c:=c) fun e=>h (by simp[e]);unfold Lib.indexByte;rw[h1,h2];rfl
theorem ip:∀ {l:List UInt8} {c:UInt8} {r:List UInt8},c∉l->Lib.indexByte (l++c::r) c=l.length
 |[],c,r,_=>by unfold Lib.indexByte;simp
 |b::l,c,r,h=>by
  have h1:(b==c)=false:=beq_eq_false_iff_ne.2 fun e=>h (by simp[e]);have h2:=ip (l:=l) (c:=c) (r:=r) fun e=>h (by simp[e]);show Lib.indexByte (b::(l++c::r)) c=_;unfold Lib.indexByte;rw[h1,h2];have h3:(((l.length:Nat):Int) == -1)=false:=beq_eq_false_iff_ne.2 (by omega);rw[h3];simp
theorem tE {l:List UInt8} (h:dD l=true):vg l 114=(l,[],false):=by
 unfold vg;rw[fR (kz h (by decide)),if_neg (by omega)]
theorem xi {l r:List UInt8} (h:dD l=true):vg (l++114::r) 114=(l,r,true):=by
 unfold vg;rw[ip (kz h (by decide)),if_pos (by omega),Int.toNat_natCast];simp
theorem mj {neg:Bool} {x y:Nat} (hx:(ai ag x).length<=128) (hy:(ai ag y).length<=128) (hy0:0<y):
 pP (cO neg x y)=0/\zh (cO neg x y)=neg/\gH (pO (cO neg x y)).1=x/\xO (cO neg x y)=y:=by
 have l1:=oP hx;have l2:=oP hy;obtain⟨c,cs,hcs⟩:∃ c cs,dec x=c::cs:=by
  cases h:dec x with
  |nil=>exact absurd h (vm x)
  |cons c cs=>exact⟨c,cs,rfl⟩
 have hc:pz c=true:=List.all_eq_true.1 (cV x) c (by rw[hcs];simp);have hc45:c≠45:=by rintro rfl;exact absurd hc (by decide)
 have hn:zh (cO neg x y)=neg/\Lib.trimPrefix (cO neg x y) [45]=dec x++(if y=1 then [] else 114::dec y):=by
  unfold zh cO;rw[hcs];cases neg with
  |true=>constructor<;>simp[Lib.hasPrefix,Lib.trimPrefix]
  |false=>
   have hp:∀ r:List UInt8,[45].isPrefixOf (c::r)=false:=fun r=>by
    have h1:((45:UInt8)==c)=false:=beq_eq_false_iff_ne.2 (Ne.symm hc45);show ((45:UInt8)==c&&([]:List UInt8).isPrefixOf r)=false;rw[h1];rfl
   constructor<;>simp[Lib.hasPrefix,Lib.trimPrefix,hp]
 have hlen:¬2500<(cO neg x y).length:=by
  unfold cO;rw[List.length_append,List.length_append];have h1:(if neg=true then [45] else ([]:List UInt8)).length<=1:=by split<;>simp
  have h2:(if y=1 then ([]:List UInt8) else 114::dec y).length<=1235:=by split<;>simp<;>omega
  omega
 have hcut:pO (cO neg x y)=if y=1 then (dec x,[],false) else (dec x,dec y,true):=by
  unfold pO;rw[hn.2];by_cases h:y=1
  ·rw[if_pos h,if_pos h,List.append_nil];exact tE (cV x)
  ·rw[if_neg h,if_neg h];exact xi (cV x)
 have hden:xO (cO neg x y)=y:=by
  unfold xO;rw[hcut];by_cases h:y=1
  ·rw[if_pos h];simp[h]
  ·rw[if_neg h];simp[dS]
 refine⟨?_,hn.1,?_,hden⟩
 ·unfold pP;rw[if_neg hlen,hden,if_neg,if_neg (by omega)];rw[hcut];by_cases h:y=1
  ·rw[if_pos h];simp[jb]
  ·rw[if_neg h];simp[jb]
 ·rw[hcut];by_cases h:y=1
  ·rw[if_pos h];exact dS x
  ·rw[if_neg h];exact dS x
def cK (a b:Int):Int:=if a<b then -1 else if b<a then 1 else 0
theorem b9 (a b:Int):cK a b=0↔a=b:=by unfold cK;split<;>(try split)<;>omega
def yM (a b:Int):Int:=if a≠0 then a else b
theorem cS (a b:Int):yM a b=0↔a=0/\b=0:=by
 unfold yM
 split
 ·omega
 ·rename_i h;simp at h;simp[h]
def yE (x y:UInt8):Int:=cK x.toNat y.toNat
theorem tD (x y:UInt8) (a b:List UInt8):Lib.compareBytes (x::a) (y::b)=yM (yE x y) (Lib.compareBytes a b):=by
 rw[Lib.compareBytes];simp only[UInt8.lt_iff_toNat_lt];unfold yE cK yM;by_cases h1:x.toNat<y.toNat
 ·have h2:(x.toNat:Int)<y.toNat:=by omega
  rw[if_pos h1,if_pos h2,if_pos (by decide)]
 ·have h2:¬(x.toNat:Int)<y.toNat:=by omega
  rw[if_neg h1,if_neg h2];by_cases h3:y.toNat<x.toNat
  ·have h4:(y.toNat:Int)<x.toNat:=by omega
   rw[if_pos h3,if_pos h4,if_pos (by decide)]
  ·have h4:¬(y.toNat:Int)<x.toNat:=by omega
   rw[if_neg h3,if_neg h4,if_neg (by decide)]
theorem uI (x y:UInt8):yE x y=0↔x=y:=by
 unfold yE;rw[b9];exact⟨fun h=>UInt8.toNat_inj.1 (by omega),fun h=>by rw[h]⟩
theorem lG:∀ (a b:List UInt8),Lib.compareBytes a b=0↔a=b:=by
 intro a
 induction a with
 |nil=>intro b;cases b<;>simp[Lib.compareBytes]
 |cons x a ih=>
  intro b;cases b with
  |nil=>simp[Lib.compareBytes]
  |cons y b=>rw[tD,cS,uI,ih,List.cons.injEq]
mutual
def Tm.cmp:Tm->Tm->Int
 |.mk k v s n args,.mk k' v' s' n' args'=>yM (cK k k') (if k=1 then cK v v' else if k=2 then yT n n' else yM (cK args.length args'.length) (yM (Lib.compareBytes s.data.toList s'.data.toList) (lI args args')))
def lI:List Tm->List Tm->Int
 |t::l,t'::l'=>yM (t.cmp t') (lI l l')
 |_,_=>0
end
mutual
def Tm.fine:Tm->Prop
 |.mk k v s n args=>n.ok/\aJ k v s n.neg n.num.length n.den.length n.err args.length=0/\dU args
def dU:List Tm->Prop
 |[]=>True
 |t::l=>t.fine/\dU l
end
theorem vB {l:List Tm} (h:∀ i (hi:i<l.length),(l[i]).fine):dU l:=by
 induction l with
 |nil=>rw[dU];trivial
 |cons x l ih=>rw[dU];exact⟨h 0 (by simp),ih fun i hi=>h (i+1) (Nat.succ_lt_succ hi)⟩
theorem TC.fine {w:World} {t:Tm} {cs:List Value} (h:TC w t cs):t.err0=0->t.fine:=by
 induction h with
 |mk k v s n args A B Ar cap cs hk hv hs hA hB hn hcap hm hr ha ih=>
  intro he;obtain⟨h1,h2⟩:=br he;rw[Tm.fine];exact⟨hn,h1,vB fun i hi=>ih i hi (dm h2 hi)⟩
theorem sB {k v:Int} {s:ByteArray} {n:LN} {na:Nat} (h:aJ k v s n.neg n.num.length n.den.length n.err na=0) (hk:k=2):n.err=0:=by
 rcases aj h with ⟨_,_,_,h,_⟩|⟨h,_⟩
 ·exact h
 ·exact absurd hk h
theorem lH {a b:LN} (ha:a.ok) (hb:b.ok) (ea:a.err=0) (eb:b.err=0):yT a b=0↔a=b:=by
 rw[vd ha hb ea eb,uk];exact⟨LN.q_eq ha hb ea eb,fun h=>by rw[h]⟩
theorem mG:∀ {l l' x y:List UInt8} {c:UInt8},dD l=true->dD l'=true->pz c=false->l++c::x=l'++c::y->l=l'/\x=y
 |[],[],x,y,c,_,_,_,h=>⟨rfl,by simpa using h⟩
 |[],d::l',x,y,c,_,h2,h3,h=>by
  simp at h;have:=List.all_eq_true.1 h2 d (by simp);rw[<-h.1,h3]at this;cases this
 |d::l,[],x,y,c,h1,_,h3,h=>by
  simp at h;have:=List.all_eq_true.1 h1 d (by simp);rw[h.1,h3]at this;cases this
 |d::l,d'::l',x,y,c,h1,h2,h3,h=>by
  simp only[List.cons_append,List.cons.injEq]at h;obtain⟨rfl,h⟩:=h;have e1:dD l=true:=by unfold dD at h1 ⊢;rw[List.all_cons]at h1;simp at h1;simpa using h1.2
  have e2:dD l'=true:=by unfold dD at h2 ⊢;rw[List.all_cons]at h2;simp at h2;simpa using h2.2
  have:=mG e1 e2 h3 h;exact⟨by rw[this.1],this.2⟩
theorem xx {a b:LN} (ha:a.ok) (hb:b.ok) (ea:a.err=0) (eb:b.err=0) (h:cO a.neg a.x a.y=cO b.neg b.x b.y):a=b:=by
 obtain⟨g1,g2,g3,g4,g5⟩:=LN.good ha ea;obtain⟨k1,k2,k3,k4,k5⟩:=LN.good hb eb;have pa:=mj (neg:=a.neg) (x:=a.x) (y:=a.y) (by rw[g1];exact g3) (by rw[g2];exact g4) g5.1;have pb:=mj (neg:=b.neg) (x:=b.x) (y:=b.y) (by rw[k1];exact k3) (by rw[k2];exact k4) k5.1;rw[h]at pa;have e1:a.neg=b.neg:=pa.2.1.symm.trans pb.2.1;have e2:a.x=b.x:=pa.2.2.1.symm.trans pb.2.2.1;have e3:a.y=b.y:=pa.2.2.2.symm.trans pb.2.2.2;have e4:a.num=b.num:=by rw[<-g1,<-k1,e2]
 have e5:a.den=b.den:=by rw[<-g2,<-k2,e3]
 cases a;cases b;simp only at e1 e4 e5;rw[e1,e4,e5]
theorem lK {l:Nat} (h:l<=32):(Utf8.encode (48+(l:Int))).data.toList=[UInt8.ofNat (48+l)]:=by
 have:∀ m:Fin 33,(Utf8.encode (48+(m.val:Int))).data.toList=[UInt8.ofNat (48+m.val)]:=by decide +kernel
 obtain⟨m,rfl⟩:∃ m:Fin 33,m.val=l:=⟨⟨l,by omega⟩,rfl⟩;exact this m
theorem th {l l':Nat} (h:l<=32) (h':l'<=32) (e:UInt8.ofNat (48+l)=UInt8.ofNat (48+l')):l=l':=by
 have:=congrArg UInt8.toNat e;rw[UInt8.toNat_ofNat_of_lt' (by show 48+l<256;omega),UInt8.toNat_ofNat_of_lt' (by show 48+l'<256;omega)]at this;omega
theorem ko (k v:Int) (s:ByteArray) (n:LN) (args:List Tm):(cC (.mk k v s n args)).data.toList=if k=1 then 118::dec v.toNat else if k=2 then 110::cO n.neg n.x n.y else if k=3 then 97::s.data.toList else if k=4 then 115::s.data.toList else 99::((Utf8.encode (48+(args.length:Int))).data.toList++s.data.toList):=by
 rw[pF]
 (repeat' split)<;>simp[ByteArray.data_append]
theorem tV {k v:Int} {s:ByteArray} {n:LN} {args:List Tm} {k' v':Int} {s':ByteArray} {n':LN} {args':List Tm} (hn:n.ok) (hn':n'.ok)
 (h1:aJ k v s n.neg n.num.length n.den.length n.err args.length=0) (h2:aJ k' v' s' n'.neg n'.num.length n'.den.length n'.err args'.length=0)
 (h:(cC (.mk k v s n args)).data.toList=(cC (.mk k' v' s' n' args')).data.toList):
 k=k'/\(k=1->v=v')/\(k=2->n=n')/\(k≠1->k≠2->s=s')/\args.length=args'.length:=by
 rw[ko,ko]at h;have hs:s.data.toList=s'.data.toList->s=s':=fun e=>ByteArray.ext (Array.toList_inj.1 e);rcases aj h1 with ⟨rfl,a1,a2,a3,a4⟩|⟨_,_,_,_,⟨rfl,a1,a2,a3,a4⟩|⟨rfl,a1,a2,a3⟩|⟨rfl,a1,a2,a3⟩|⟨rfl,a1,a2,a3,a4⟩⟩<;>
 rcases aj h2 with ⟨rfl,b1,b2,b3,b4⟩|⟨_,_,_,_,⟨rfl,b1,b2,b3,b4⟩|⟨rfl,b1,b2,b3⟩|⟨rfl,b1,b2,b3⟩|⟨rfl,b1,b2,b3,b4⟩⟩<;>
 simp only[if_true,if_false,(by decide:¬(2:Int)=1),(by decide:¬(3:Int)=1),(by decide:¬(3:Int)=2),(by decide:¬(4:Int)=1),(by decide:¬(4:Int)=2),(by decide:¬(4:Int)=3),(by decide:¬(5:Int)=1),(by decide:¬(5:Int)=2),(by decide:¬(5:Int)=3),(by decide:¬(5:Int)=4)]at h<;>
 first
  |(exfalso;revert h;simp;done)
  |skip
 ·simp only[List.cons.injEq,true_and]at h;exact⟨rfl,fun q=>absurd q (by decide),fun _=>xx hn hn' a3 b3 h,fun _ q=>absurd rfl q,by omega⟩
 ·simp only[List.cons.injEq,true_and]at h;refine⟨rfl,fun _=>?_,fun q=>absurd q (by decide),fun q=>absurd rfl q,by omega⟩;have:=congrArg gH h;rw[dS,dS]at this;omega
 ·simp only[List.cons.injEq,true_and]at h;exact⟨rfl,fun q=>absurd q (by decide),fun q=>absurd q (by decide),fun _ _=>hs h,by omega⟩
 ·simp only[List.cons.injEq,true_and]at h;exact⟨rfl,fun q=>absurd q (by decide),fun q=>absurd q (by decide),fun _ _=>hs h,by omega⟩
 ·simp only[List.cons.injEq,true_and]at h;rw[lK a4,lK b4]at h;simp only[List.cons_append,List.nil_append,List.cons.injEq]at h;exact⟨rfl,fun q=>absurd q (by decide),fun q=>absurd q (by decide),fun _ _=>hs h.2,th a4 b4 h.1⟩
mutual
theorem Tm.shape_inj:∀ (a b:Tm),a.fine->b.fine->∀ r r',a.shapeL++r=b.shapeL++r'->a.cmp b=0/\r=r'
 |.mk k v s n args,.mk k' v' s' n' args',ha,hb,r,r',h=>by
  rw[Tm.fine]at ha hb;rw[Tm.shapeL,Tm.shapeL,List.append_assoc,List.append_assoc,List.cons_append,List.cons_append]at h;obtain⟨h1,h2⟩:=mG (cV _) (cV _) (by decide) h;have h3:=congrArg gH h1;rw[dS,dS]at h3;rw[List.append_assoc,List.append_assoc]at h2;obtain⟨h4,h5⟩:=List.append_inj h2 (by rw[Array.length_toList,Array.length_toList];exact h3);obtain⟨rfl,e1,e2,e3,e4⟩:=tV ha.1 hb.1 ha.2.1 hb.2.1 h4;obtain⟨h6,h7⟩:=jm args args' e4 ha.2.2 hb.2.2 r r' h5;refine⟨?_,h7⟩;rw[Tm.cmp,cS,b9];refine⟨rfl,?_⟩;by_cases k1:k=1
  ·rw[if_pos k1,b9];exact e1 k1
  ·rw[if_neg k1];by_cases k2:k=2
   ·rw[if_pos k2,e2 k2,lH hb.1 hb.1 (sB hb.2.1 k2) (sB hb.2.1 k2)]
   ·rw[if_neg k2,cS,cS,b9,lG,e3 k1 k2];exact⟨by omega,rfl,h6⟩
theorem jm:∀ (a b:List Tm),a.length=b.length->dU a->dU b->∀ r r',aM a++r=aM b++r'->lI a b=0/\r=r'
 |[],[],_,_,_,r,r',h=>⟨rfl,by simpa[aM] using h⟩
 |t::l,t'::l',hl,ha,hb,r,r',h=>by
  rw[dU]at ha hb;rw[aM,aM,List.append_assoc,List.append_assoc]at h;obtain⟨h1,h2⟩:=t.shape_inj t' ha.1 hb.1 _ _ h;obtain⟨h3,h4⟩:=jm l l' (by simpa using hl) ha.2 hb.2 r r' h2;refine⟨?_,h4⟩;rw[lI,cS];exact⟨h1,h3⟩
end
theorem cZ (a:Int) (w:World):Calls Tryz.prog 47 #[.int .i64 a] w fun e w'=>e=.returned (.bool false)/\w'=w:=by
 have h:(a != a)=false:=by simp
 go_enter Tryz.func47,Tryz.ntmps47;go_wp2_with fail;go_ret;exact⟨rfl,rfl⟩
theorem j2 (a b:Int) (w:World):Calls Tryz.prog 16 #[.int .i64 a,.int .i64 b] w fun e w'=>e=.returned (.int .i64 (cK a b))/\w'=w:=by
 by_cases h1:a<b
 ·have E:Hid (cK a b = -1):=by unfold Hid cK;rw[if_pos h1]
  generalize cK a b=r at*;go_enter Tryz.func16,Tryz.ntmps16;go_wp2_with fail;refine (cZ _ _).mono ?_;rintro e w1 ⟨rfl,rfl⟩;go_wp2_with fail;refine (cZ _ _).mono ?_;rintro e w1 ⟨rfl,rfl⟩;go_wp2_with fail;obtain rfl:=E.out;go_ret;exact⟨rfl,rfl⟩
 ·by_cases h2:b<a
  ·have E:Hid (cK a b=1):=by unfold Hid cK;rw[if_neg h1,if_pos h2]
   generalize cK a b=r at*;go_enter Tryz.func16,Tryz.ntmps16;go_wp2_with fail;refine (cZ _ _).mono ?_;rintro e w1 ⟨rfl,rfl⟩;go_wp2_with fail;refine (cZ _ _).mono ?_;rintro e w1 ⟨rfl,rfl⟩;go_wp2_with fail;obtain rfl:=E.out;go_ret;exact⟨rfl,rfl⟩
  ·have E:Hid (cK a b=0):=by unfold Hid cK;rw[if_neg h1,if_neg h2]
   generalize cK a b=r at*;go_enter Tryz.func16,Tryz.ntmps16;go_wp2_with fail;refine (cZ _ _).mono ?_;rintro e w1 ⟨rfl,rfl⟩;go_wp2_with fail;refine (cZ _ _).mono ?_;rintro e w1 ⟨rfl,rfl⟩;go_wp2_with fail;obtain rfl:=E.out;go_ret;exact⟨rfl,rfl⟩
end Go.Proofs.YtlhojoefhannnaaGreat

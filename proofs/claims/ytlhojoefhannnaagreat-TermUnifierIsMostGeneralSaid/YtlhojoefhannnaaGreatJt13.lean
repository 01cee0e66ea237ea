/- The binary search in bindings; the function that term.Apply makes. And 1 more texts. -/
import Derived.Test.YtlhojoefhannnaaGreatJt12
set_option linter.unusedVariables false
set_option linter.unusedSimpArgs false
set_option maxRecDepth 100000
set_option maxHeartbeats 51200000
namespace Go.Proofs.YtlhojoefhannnaaGreat
open Go.RowKit NumB
theorem oo (x v k v0:Int) (s:ByteArray) (ng:Bool) (A1 B1 Xr:Option Addr) (n1 c1 m1 d1 xl xc:Nat) (w:World):
 Calls Tryz.prog 15 #[.agg #[.int .i64 x,.int .i64 k,.int .i64 v0,.string s,.bool ng,.slice A1 n1 c1,.slice B1 m1 d1,.slice Xr xl xc],.int .i64 v] w fun e w'=>e=.returned (.int .i64 (cK x v))/\Below w.heap.size w w':=by
 have HC:Hid (∀ W,Calls Tryz.prog 16 #[.int .i64 x,.int .i64 v] W fun e w'=>e=.returned (.int .i64 (cK x v))/\w'=W):=fun W=>j2 x v W;go_enter Tryz.func15,Tryz.ntmps15;go_wp2_with fail;refine (HC.out _).mono ?_;rintro e w1 ⟨rfl,rfl⟩;go_wp2_with fail;go_ret;exact⟨rfl,I w _⟩
def fnd (bs:List (Int×Tm)) (v:Int):Option Tm:=(bs.find? fun p=>p.1==v).map (·.2)
def dN (bs:List (Int×Tm)):Prop:=∀ i j (hi:i<bs.length) (hj:j<bs.length),i<j->(bs[i]).1<(bs[j]).1
theorem pm {bs:List (Int×Tm)} {v:Int} (h:∀ q (hq:q<bs.length),(bs[q]).1≠v):fnd bs v=none:=by
 unfold fnd;rw[List.find?_eq_none.2 fun p hp=>?_]
 ·rfl
 ·obtain⟨q,hq,rfl⟩:=List.getElem_of_mem hp;simpa using h q hq
theorem pp {bs:List (Int×Tm)} {v:Int} {q:Nat} (hs:dN bs) (hq:q<bs.length) (h:(bs[q]).1=v):fnd bs v=some (bs[q]).2:=by
 unfold fnd;have h1:bs.find? (fun p=>p.1==v)=some bs[q]:=by
  rw[List.find?_eq_some_iff_getElem];refine⟨by simpa using h,q,hq,rfl,fun j hj=>?_⟩;have:=hs j q (by omega) hq hj;simp;omega
 rw[h1];rfl
def uP (bs:List (Int×Tm)) (v:Int) (i:Nat) (b:Bool):Prop:=(b=true/\∃ hi:i<bs.length,(bs[i]).1=v)\/(b=false/\∀ q (hq:q<bs.length),(bs[q]).1≠v)
theorem jI {a b:Int}:cK a b<0↔a<b:=by unfold cK;(repeat' split)<;>omega
theorem oG {w:World} {bs:List (Int×Tm)} {bv:Value} (h:BL w bv bs) (hn:(bs.length:Int)*120<=140737488351232) (hs:dN bs) (v:Int) (W:World) (hW:Below w.heap.size w W):
 Calls Tryz.prog 14 #[bv,.int .i64 v,.func (.func 15) #[] #[]] W fun e W'=>∃ (i:Nat) (b:Bool),e=.returned (.tuple #[.int .i64 (i:Int),.bool b])/\Below W.heap.size W W'/\uP bs v i b:=by
 obtain⟨Ar,cap,cs,rfl,hcap,hm,hrow,ha⟩:=h;have HR:=zH hrow;have HA:=zH ha;have HWB:=zH hW;have HIN:=zH hs;have HC:Hid (∀ (x k v0:Int) (s:ByteArray) (ng:Bool) (A1 B1 Xr:Option Addr) (n1 c1 m1 d1 xl xc:Nat) (W:World),Calls Tryz.prog 15 #[.agg #[.int .i64 x,.int .i64 k,.int .i64 v0,.string s,.bool ng,.slice A1 n1 c1,.slice B1 m1 d1,.slice Xr xl xc],.int .i64 v] W fun e w'=>e=.returned (.int .i64 (cK x v))/\Below W.heap.size W w'):=fun x k v0 s ng A1 B1 Xr n1 c1 m1 d1 xl xc W=>oo x v k v0 s ng A1 B1 Xr n1 c1 m1 d1 xl xc W;unfold maxLen at hm;obtain⟨n,hl⟩:∃ n,bs.length=n:=⟨_,rfl⟩;rw[hl]at hcap hn ⊢;have HL:=zH hl;clear hl hrow ha hW hs;go_enter Tryz.func14,Tryz.ntmps14;go_wp2_with fail
 go_loopg [9,10] n (fun gk s9 s10 wr=>∃ i j:Nat,s9=.int .i64 (i:Int)/\s10=.int .i64 (j:Int)/\gk+i=j/\j<=n/\Hid (∀ q (hq:q<bs.length),q<i->(bs[q]).1<v)/\Hid (∀ q (hq:q<bs.length),j<=q->v<=(bs[q]).1)/\Hid (Below W.heap.size W wr))
 case atStart=>exact⟨0,n,rfl,rfl,by omega,Nat.le_refl _,fun q _ h=>absurd h (by omega),fun q hq h=>by have:=HL.out;omega,Below.refl _ _⟩
 case round=>
  obtain⟨i,j,rfl,rfl,hg,hjn,H1,H2,HB⟩:=hrel;by_cases hij:i<j
  ·have hmj:(i+j) / 2<j:=by omega
   have hmi:i<=(i+j) / 2:=by omega
   have hma:(i+j) / 2<bs.length:=by rw[HL.out];omega
   have hmn:((i:Int)+(j:Int)) / 2<(n:Int):=by omega
   have hmz:0<=((i:Int)+(j:Int)) / 2:=by omega
   obtain⟨b,o,k,v0,s,ng,A1,n1,c1,B1,m1,d1,Xr,xl,xc,hAr,htc0,hlt,y0,y1,y2,y3,y4,y5,y6,y7⟩:=dR HR.out HA.out (HWB.out.trans (HB.out.mono HWB.out.size)) hma;subst hAr;have HX1:Hid ((bs[(i+j) / 2]).1<v->∀ q (hq:q<bs.length),q<(i+j) / 2+1->(bs[q]).1<v):=fun hx q hq hl=>by
    by_cases e:q=(i+j) / 2
    ·subst e;exact hx
    ·have:=HIN.out q ((i+j) / 2) hq hma (by omega);omega
   have HX2:Hid (¬(bs[(i+j) / 2]).1<v->∀ q (hq:q<bs.length),(i+j) / 2<=q->v<=(bs[q]).1):=fun hx q hq hl=>by
    by_cases e:q=(i+j) / 2
    ·subst e;omega
    ·have:=HIN.out ((i+j) / 2) q hma hq (by omega);omega
   generalize (bs[(i+j) / 2]).1=x at*;have HJ:=zH hmj;have HI:=zH hmi;clear htc0 hma hlt hmj hmi;go_wp2_with fail;refine (HC.out _ _ _ _ _ _ _ _ _ _ _ _ _ _ _).mono ?_;rintro e w1 ⟨rfl,hb1⟩;have HB1:Hid (Below W.heap.size W w1):=HB.out.trans (hb1.mono HB.out.size);clear hb1 y0 y1 y2 y3 y4 y5 y6 y7;by_cases hx:x<v
   ·have hc:cK x v<0:=jI.2 hx;have H1':=zH (HX1.out hx);clear HX1 HX2 hx;generalize cK x v=cc at*;go_wp2_with fail
    go_roundg (j-((i+j) / 2+1))
    case measure=>have:=HJ.out;omega
    case rel=>exact⟨(i+j) / 2+1,j,by congr 1,rfl,by have:=HJ.out;omega,hjn,H1'.out,H2.out,HB1.out⟩
   ·have hc:¬cK x v<0:=fun h=>hx (jI.1 h);have H2':=zH (HX2.out (by first|exact hx|omega));clear HX1 HX2 hx;generalize cK x v=cc at*;go_wp2_with fail
    go_roundg ((i+j) / 2-i)
    case measure=>have:=HJ.out;have:=HI.out;omega
    case rel=>exact⟨i,(i+j) / 2,rfl,by congr 1,by have:=HI.out;omega,by have:=HJ.out;omega,H1.out,H2'.out,HB1.out⟩
  ·obtain rfl:j=i:=by omega
   by_cases hin:j<n
   ·have hja:j<bs.length:=by rw[HL.out];exact hin
    obtain⟨b,o,k,v0,s,ng,A1,n1,c1,B1,m1,d1,Xr,xl,xc,hAr,htc0,hlt,y0,y1,y2,y3,y4,y5,y6,y7⟩:=dR HR.out HA.out (HWB.out.trans (HB.out.mono HWB.out.size)) hja;subst hAr;have HX1:Hid ((bs[j]).1=v->uP bs v j true):=fun hx=>.inl ⟨rfl,hja,hx⟩;have HX2:Hid ((bs[j]).1≠v->uP bs v j false):=fun hx=>.inr ⟨rfl,fun q hq e=>by
     rcases Nat.lt_trichotomy q j with h|h|h
     ·have:=H1.out q hq h;omega
     ·subst h;exact hx e
     ·have:=HIN.out j q hja hq h;have:=H2.out j hja (Nat.le_refl _);omega⟩
    generalize (bs[j]).1=x at*;clear htc0 hja hlt;go_wp2_with fail;refine (HC.out _ _ _ _ _ _ _ _ _ _ _ _ _ _ _).mono ?_;rintro e w1 ⟨rfl,hb1⟩;have HB1:Hid (Below W.heap.size W w1):=HB.out.trans (hb1.mono HB.out.size);clear hb1 y0 y1 y2 y3 y4 y5 y6 y7;by_cases hx:x=v
    ·have hc:(cK x v==0)=true:=by rw[(b9 x v).2 hx];rfl
     have HS:=zH (HX1.out hx);clear HX1 HX2 hx;generalize cK x v=cc at*;go_wp2_with fail;refine bodyPost_ret (v:=.tuple #[.int .i64 (j:Int),.bool true]) (by rw[results_tmp2 rfl];rfl) rfl ?_;exact⟨j,true,rfl,HB1.out,HS.out⟩
    ·have hc:(cK x v==0)=false:=beq_eq_false_iff_ne.2 fun e=>hx ((b9 x v).1 e);have HS:=zH (HX2.out (by first|exact hx|omega));clear HX1 HX2 hx;generalize cK x v=cc at*;go_wp2_with fail;refine bodyPost_ret (v:=.tuple #[.int .i64 (j:Int),.bool false]) (by rw[results_tmp2 rfl];rfl) rfl ?_;exact⟨j,false,rfl,HB1.out,HS.out⟩
   ·have HS:Hid (uP bs v j false):=.inr ⟨rfl,fun q hq e=>by have:=HL.out;have:=H1.out q hq (by omega);omega⟩;go_wp2_with fail;refine bodyPost_ret (v:=.tuple #[.int .i64 (j:Int),.bool false]) (by rw[results_tmp2 rfl];rfl) rfl ?_;exact⟨j,false,rfl,HB.out,HS.out⟩
theorem jU {w:World} {bs:List (Int×Tm)} {bv:Value} (h:BL w bv bs) (hn:(bs.length:Int)*120<=140737488351232) (hs:dN bs) (bc:Nat) (hc:w.cell? ⟨bc,0,none⟩=some bv) (hlt:bc<w.heap.size) (v:Int) (W:World) (hW:Below w.heap.size w W):
 Calls Tryz.prog 13 #[.int .i64 v,.pointer (some ⟨bc,0,none⟩)] W fun e W'=>∃ cx tx,e=.returned (.tuple #[.agg cx.toArray,.bool (fnd bs v).isSome])/\TC W' tx cx/\(∀ x,fnd bs v=some x->tx=x)/\Below W.heap.size W W':=by
 have HS:Hid (∀ W',Below w.heap.size w W'->Calls Tryz.prog 14 #[bv,.int .i64 v,.func (.func 15) #[] #[]] W' fun e w2=>∃ (i:Nat) (b:Bool),e=.returned (.tuple #[.int .i64 (i:Int),.bool b])/\Below W'.heap.size W' w2/\uP bs v i b):=fun W' hb=>oG h hn hs v W' hb;obtain⟨Ar,cap,cs,rfl,hcap,hm,hrow,ha⟩:=h;have HR:=zH hrow;have HA:=zH ha;have HWB:=zH hW;have HIN:=zH hs;have HCL:Hid (∀ W',Below w.heap.size w W'->W'.cell? ⟨bc,0,none⟩=some (.slice Ar bs.length cap)):=fun W' hb=>(hb.cell (p:=⟨bc,0,none⟩) hlt).trans hc;unfold maxLen at hm;obtain⟨n,hl⟩:∃ n,bs.length=n:=⟨_,rfl⟩;rw[hl]at hcap hn HS HCL;have HL:=zH hl;clear hl hrow ha hW hs hc hlt;have HB0:Hid (Below W.heap.size W (W.alloc (.cells #[.int .i64 0,.int .i64 0,.string ⟨#[]⟩,.bool false,.slice none 0 0,.slice none 0 0,.slice none 0 0] 27))):=I W _;have HK0:Hid (af (W.alloc (.cells #[.int .i64 0,.int .i64 0,.string ⟨#[]⟩,.bool false,.slice none 0 0,.slice none 0 0,.slice none 0 0] 27)) W.heap.size 27 #[.int .i64 0,.int .i64 0,.string ⟨#[]⟩,.bool false,.slice none 0 0,.slice none 0 0,.slice none 0 0]):=af.new W _ _;have y0:=HCL.out _ (HWB.out.trans (HB0.out.mono HWB.out.size));go_enter Tryz.func13,Tryz.ntmps13;go_wp2_with fail;refine (HS.out _ (by exact HWB.out.trans (HB0.out.mono HWB.out.size))).mono ?_;rintro e w1 ⟨i,b,rfl,hb1,hsr⟩;have HB1:Hid (Below W.heap.size W w1):=HB0.out.trans (hb1.mono HB0.out.size);have HK1:=zH (HK0.out.to hb1);have HW1:=HWB.out.trans (HB1.out.mono HWB.out.size);clear HB0 HK0 hb1 y0;have y0:=HCL.out _ HW1;obtain⟨r0,r1,r2,r3,r4,r5,r6⟩:=HK1.out.s7;obtain⟨z0,z1,z2,z3,z4,z5,z6⟩:=HK1.out.z7;rcases hsr with ⟨rfl,hi,hv⟩|⟨rfl,hv⟩
 ·have hif:=pp HIN.out hi hv;have hin:i<n:=by rw[<-HL.out];exact hi
  obtain⟨bb,o,k,v0,s,ng,A1,n1,c1,B1,m1,d1,Xr,xl,xc,hAr,htc,hlt,x0,x1,x2,x3,x4,x5,x6,x7⟩:=dR HR.out HA.out HW1 hi;subst hAr;have HT:=zH htc;have HF:=zH hif;clear htc hif hlt hv x0 HW1;go_wp2_with fail;refine bodyPost_ret (v:=.tuple #[.agg #[.int .i64 k,.int .i64 v0,.string s,.bool ng,.slice A1 n1 c1,.slice B1 m1 d1,.slice Xr xl xc],.bool true]) (by rw[results_cell_tmp rfl];go_simp) rfl ?_;refine⟨[.int .i64 k,.int .i64 v0,.string s,.bool ng,.slice A1 n1 c1,.slice B1 m1 d1,.slice Xr xl xc],(bs[i]).2,(by rw[HF.out];rfl),?_,fun x hx=>?_,((((((HB1.out.setCell (Nat.le_refl _) _).setCell (Nat.le_refl _) _).setCell (Nat.le_refl _) _).setCell (Nat.le_refl _) _).setCell (Nat.le_refl _) _).setCell (Nat.le_refl _) _).setCell (Nat.le_refl _) _⟩
  rotate_left
  ·rw[HF.out]at hx;exact Option.some.inj hx
  ·exact HT.out.to (HWB.out.trans ((((((((HB1.out.setCell (Nat.le_refl _) _).setCell (Nat.le_refl _) _).setCell (Nat.le_refl _) _).setCell (Nat.le_refl _) _).setCell (Nat.le_refl _) _).setCell (Nat.le_refl _) _).setCell (Nat.le_refl _) _).mono HWB.out.size))
 ·have HF:=zH (pm hv);clear hv HW1;go_wp2_with fail;refine bodyPost_ret (v:=.tuple #[.agg #[.int .i64 0,.int .i64 0,.string ⟨#[]⟩,.bool false,.slice none 0 0,.slice none 0 0,.slice none 0 0],.bool false]) (by rw[results_cell_tmp rfl];go_simp) rfl ?_;refine⟨[.int .i64 0,.int .i64 0,.string ⟨#[]⟩,.bool false,.slice none 0 0,.slice none 0 0,.slice none 0 0],.mk 0 0 ⟨#[]⟩ ⟨false,[],[]⟩ [],(by rw[HF.out];rfl),?_,fun x hx=>(by rw[HF.out]at hx;cases hx),?_⟩
  ·exact .mk 0 0 ⟨#[]⟩ ⟨false,[],[]⟩ [] (.slice none 0 0) (.slice none 0 0) none 0 (fun _=>[]) ⟨by decide,by decide⟩ ⟨by decide,by decide⟩ (by decide) (ep _ _) (ep _ _) ⟨Ok.nil,Ok.nil⟩ (Nat.le_refl _) (by decide) (fun h=>by simp at h) (fun i h=>by simp at h)
  ·exact ((((((HB1.out.setCell (Nat.le_refl _) _).setCell (Nat.le_refl _) _).setCell (Nat.le_refl _) _).setCell (Nat.le_refl _) _).setCell (Nat.le_refl _) _).setCell (Nat.le_refl _) _).setCell (Nat.le_refl _) _
mutual
def Tm.allV (P:Int->Prop):Tm->Prop
 |.mk k v _ _ args=>(k=1->P v)/\bm P args
def bm (P:Int->Prop):List Tm->Prop
 |[]=>True
 |t::l=>t.allV P/\bm P l
end
mutual
theorem Tm.allV_mono {P Q:Int->Prop} (h:∀ v,P v->Q v):∀ (t:Tm),t.allV P->t.allV Q
 |.mk k v s n args,ht=>by
  rw[Tm.allV]at ht ⊢;exact⟨fun e=>h _ (ht.1 e),jT h args ht.2⟩
theorem jT {P Q:Int->Prop} (h:∀ v,P v->Q v):∀ (l:List Tm),bm P l->bm Q l
 |[],_=>by rw[bm];trivial
 |t::l,ht=>by
  rw[bm]at ht ⊢;exact⟨t.allV_mono h ht.1,jT h l ht.2⟩
end
theorem lz {P:Int->Prop} {l:List Tm} (h:bm P l) {j:Nat} (hj:j<l.length):(l[j]).allV P:=by
 induction l generalizing j with
 |nil=>cases hj
 |cons t l ih=>
  rw[bm]at h;cases j with
  |zero=>exact h.1
  |succ j=>exact ih h.2 (by simpa using hj)
mutual
theorem oj {Q:Int->Prop} (hQ:∀ v,Q v):∀ (t:Tm),t.allV Q
 |.mk k v s n args=>by rw[Tm.allV];exact⟨fun _=>hQ v,lr hQ args⟩
theorem lr {Q:Int->Prop} (hQ:∀ v,Q v):∀ (l:List Tm),bm Q l
 |[]=>by rw[bm];trivial
 |t::l=>by rw[bm];exact⟨oj hQ t,lr hQ l⟩
end
mutual
def Tm.repl (f:Int->Option Tm):Tm->Tm
 |.mk k v s n args=>if k=1 then (match f v with|some x=>x|none=>.mk k v s n (bH f args)) else .mk k v s n (bH f args)
def bH (f:Int->Option Tm):List Tm->List Tm
 |[]=>[]
 |t::l=>t.repl f::bH f l
end
theorem iU (f:Int->Option Tm) (l:List Tm):(bH f l).length=l.length:=by
 induction l with
 |nil=>rw[bH]
 |cons t l ih=>rw[bH,List.length_cons,List.length_cons,ih]
theorem mw (f:Int->Option Tm) {l:List Tm} {i:Nat} (h:i<l.length) (h':i<(bH f l).length):(bH f l)[i]=(l[i]).repl f:=by
 induction l generalizing i with
 |nil=>cases h
 |cons t l ih=>
  cases i with
  |zero=>simp only[bH,List.getElem_cons_zero]
  |succ i=>
   simp only[bH,List.getElem_cons_succ];exact ih (by simpa using h) _
theorem mx {w:World} (Q:Int->Prop) (fby:FuncId) (bc:Nat) (hen:∀ args w,(callFunc fby args).run Tryz.prog w=.ok (.enter fby args) w) (f:Int->Option Tm) (hsf:∀ v x,f v=some x->x.sm) (hby:∀ v W,Q v->Below w.heap.size w W->Calls Tryz.prog fby #[.int .i64 v,.pointer (some ⟨bc,0,none⟩)] W fun e W'=>∃ cx tx,e=.returned (.tuple #[.agg cx.toArray,.bool (f v).isSome])/\TC W' tx cx/\(∀ x,f v=some x->tx=x)/\Below W.heap.size W W')
 {t:Tm} {cs:List Value} (h:TC w t cs):t.sm->t.allV Q->∀ (W:World),Below w.heap.size w W->
 Calls Tryz.prog 19 #[.agg cs.toArray,.func (.func fby) #[] #[.pointer (some ⟨bc,0,none⟩)]] W fun e W'=>∃ cs',e=.returned (.agg cs'.toArray)/\fF (W.heap.size+1) W' (t.repl f) cs'/\Below W.heap.size W W':=by
 have HBY:=zH hby;have HSF:=zH hsf;have HEN:=zH hen;clear hby hsf hen
 induction h with
 |mk k v s n args A B Ar cap cs hk hv hs hA hB hn hcap hm hr ha ih=>
  intro hsm hvs W hW;rw[Tm.sm]at hsm;rw[Tm.allV]at hvs;have HVS:=zH hvs.1;obtain⟨rs,hrs⟩:∃ rs,bH f args=rs:=⟨_,rfl⟩;have hrl:rs.length=args.length:=by rw[<-hrs];exact iU f args
  have hrg:∀ i (h:i<args.length) (h':i<rs.length),rs[i]=(args[i]).repl f:=fun i h h'=>by subst hrs;exact mw f h h'
  have HCA:Hid (∀ W',Below w.heap.size w W'->Calls Tryz.prog 49 #[A] W' fun e w'=>∃ v,e=.returned v/\aK .u32 82 w' W'.heap.size v n.num/\Below W'.heap.size W' w'):=fun W' hb=>cL n.num A W' (hA.to hb) hsm.1;have HCB:Hid (∀ W',Below w.heap.size w W'->Calls Tryz.prog 49 #[B] W' fun e w'=>∃ v,e=.returned v/\aK .u32 82 w' W'.heap.size v n.den/\Below W'.heap.size W' w'):=fun W' hb=>cL n.den B W' (hB.to hb) hsm.2.1;have HMK:Hid (∀ (A' C':Value) (Ar':Option Addr) (cap':Nat) (cs':Nat->List Value) (B':Nat) (W':World),aK .u32 82 W' B' A' n.num->aK .u32 82 W' B' C' n.den->rs.length<=cap'->cap'<=maxLen->(Ar'=none/\rs.length=0\/∃ b,Ar'=some ⟨b,0,none⟩/\kS (b+1) W' rs cs' rs.length/\B'<=b/\b<W'.heap.size/\(∃ arr,af W' b 27 arr)/\∀ i,i<rs.length->∀ j,j<7->W'.cell? ⟨b,0+i*7+j,none⟩=(cs' i)[j]?)->fF B' W' (.mk k v s n rs) [.int .i64 k,.int .i64 v,.string s,.bool n.neg,A',C',.slice Ar' rs.length cap']):=fun A' C' Ar' cap' cs' B' W' h1 h2 h3 h4 h5=>by
   rcases h5 with ⟨rfl,h5⟩|⟨b,rfl,h5,h6,h7,h8,h9⟩
   ·rw[List.eq_nil_of_length_eq_zero h5];exact .leaf hk hv hs h1 h2 hn h4
   ·exact h5.comp hk hv hs h1 h2 hn h3 h4 h6 h7 h8 h9
  have IH:Hid (∀ i (h:i<args.length) (h':i<rs.length) (W:World),Below w.heap.size w W->Calls Tryz.prog 19 #[.agg (cs i).toArray,.func (.func fby) #[] #[.pointer (some ⟨bc,0,none⟩)]] W fun e W'=>∃ cs',e=.returned (.agg cs'.toArray)/\fF (W.heap.size+1) W' rs[i] cs'/\Below W.heap.size W W'):=fun i h h' W hb=>by
   rw[hrg i h h'];exact ih i h (nL hsm.2.2.2 h) (lz hvs.2 h) W hb
  have HRP:Hid ((k=1->∀ x,f v=some x->(Tm.mk k v s n args).repl f=x)/\(k=1->f v=none->(Tm.mk k v s n args).repl f=.mk k v s n rs)/\(k≠1->(Tm.mk k v s n args).repl f=.mk k v s n rs)):=by
   refine⟨fun h x hx=>?_,fun h hx=>?_,fun h=>?_⟩
   ·rw[Tm.repl,if_pos h,hx]
   ·rw[Tm.repl,if_pos h,hx,hrs]
   ·rw[Tm.repl,if_neg h,hrs]
  generalize (Tm.mk k v s n args).repl f=rt at*;have hlb:=hsm.2.2.1;have HR:=zH hr;have HA:=zH ha;have HWB:=zH hW;obtain⟨A1,q1,rfl,_⟩:=hA;obtain⟨B1,q2,rfl,_⟩:=hB;unfold maxLen at hm;clear ih hr ha hsm hvs hW hk hv hs hrg hrs;generalize hnx:n.num=xs at*;generalize hny:n.den=ys at*;generalize hnz:n.neg=ng at*;clear hnx hny hnz hn;generalize xs.length=m1 at*;generalize ys.length=m2 at*;obtain⟨l,hl⟩:∃ l,args.length=l:=⟨_,rfl⟩;rw[hl]at hcap hlb hrl ⊢;have HL:=zH hl;have HLR:=zH hrl;clear hl hrl;obtain⟨i0,hi0,hz0,hz1,hz2⟩:=info_parts eO;have HI0:=zH hi0;have HZ0:=zH hz0;have HZ1:=zH hz1;have HZ2:=zH hz2;clear hi0 hz0 hz1 hz2;have HKA5:Hid (af ((W.alloc (.cells #[.int .i64 k,.int .i64 v,.string s,.bool ng,.slice A1 m1 q1,.slice B1 m2 q2,.slice Ar l cap] 27)).alloc (.cells #[.int .i64 0,.int .i64 0,.string ⟨#[]⟩,.bool false,.slice none 0 0,.slice none 0 0,.slice none 0 0] 27)) W.heap.size 27 #[.int .i64 k,.int .i64 v,.string s,.bool ng,.slice A1 m1 q1,.slice B1 m2 q2,.slice Ar l cap]):=(af.new W 27 #[.int .i64 k,.int .i64 v,.string s,.bool ng,.slice A1 m1 q1,.slice B1 m2 q2,.slice Ar l cap]).alloc _;have HB5:Hid (Below W.heap.size W ((W.alloc (.cells #[.int .i64 k,.int .i64 v,.string s,.bool ng,.slice A1 m1 q1,.slice B1 m2 q2,.slice Ar l cap] 27)).alloc (.cells #[.int .i64 0,.int .i64 0,.string ⟨#[]⟩,.bool false,.slice none 0 0,.slice none 0 0,.slice none 0 0] 27))):=(I W (.cells #[.int .i64 k,.int .i64 v,.string s,.bool ng,.slice A1 m1 q1,.slice B1 m2 q2,.slice Ar l cap] 27)).alloc (by simp) (.cells #[.int .i64 0,.int .i64 0,.string ⟨#[]⟩,.bool false,.slice none 0 0,.slice none 0 0,.slice none 0 0] 27);have HKR5:Hid (af ((W.alloc (.cells #[.int .i64 k,.int .i64 v,.string s,.bool ng,.slice A1 m1 q1,.slice B1 m2 q2,.slice Ar l cap] 27)).alloc (.cells #[.int .i64 0,.int .i64 0,.string ⟨#[]⟩,.bool false,.slice none 0 0,.slice none 0 0,.slice none 0 0] 27)) (W.heap.size+1) 27 #[.int .i64 0,.int .i64 0,.string ⟨#[]⟩,.bool false,.slice none 0 0,.slice none 0 0,.slice none 0 0]):=by
   have h:=af.new (W.alloc (.cells #[.int .i64 k,.int .i64 v,.string s,.bool ng,.slice A1 m1 q1,.slice B1 m2 q2,.slice Ar l cap] 27)) 27 #[.int .i64 0,.int .i64 0,.string ⟨#[]⟩,.bool false,.slice none 0 0,.slice none 0 0,.slice none 0 0];rw[show (W.alloc (.cells #[.int .i64 k,.int .i64 v,.string s,.bool ng,.slice A1 m1 q1,.slice B1 m2 q2,.slice Ar l cap] 27)).heap.size=W.heap.size+1 by simp]at h;exact h
  go_enter Tryz.func19,Tryz.ntmps19
  go_upto_if 12 with fail
  go_cut [] (fun wx=>∃ W5,W5=wx/\Hid (af W5 W.heap.size 27 #[.int .i64 k,.int .i64 v,.string s,.bool ng,.slice A1 m1 q1,.slice B1 m2 q2,.slice Ar l cap])/\Hid (Below W.heap.size W W5)/\Hid (af W5 (W.heap.size+1) 27 #[.int .i64 0,.int .i64 0,.string ⟨#[]⟩,.bool false,.slice none 0 0,.slice none 0 0,.slice none 0 0])/\Hid (rt=.mk k v s n rs))
  case first=>
   by_cases hk1:k=1
   ·have hkb:(k==1)=true:=by simp[hk1]
    have HK1E:=zH hk1;clear hk1;have hen:=HEN.out;have HBV:=zH (fun W hb=>HBY.out v W (HVS.out HK1E.out) hb);cases hfv:f v with
    |some x=>
     rw[hfv]at HBV;simp only[Option.isSome_some]at HBV;go_wp2_with fail;refine (HBV.out _ (by exact HWB.out.trans (HB5.out.mono HWB.out.size))).mono ?_;rintro e w1 ⟨cx,tx,rfl,htx,hx,hb1⟩;obtain rfl:=hx x rfl;obtain⟨k7,v7,s7,n7,A7,a7,c7,B7,b7,d7,X7,x7,e7,hf7⟩:=htx.form;subst hf7;have HCX:=zH (fun W' hb=>fK htx (HSF.out v _ hfv) W' hb);have HB1:Hid (Below W.heap.size W w1):=HB5.out.trans (hb1.mono HB5.out.size);have HK1:=zH (HKR5.out.to hb1);obtain rfl:=HRP.out.1 HK1E.out _ hfv;clear htx hx hb1 hen HBV HB5 HKA5 HKR5 HMK IH HCA HCB HRP hfv HK1E;go_wp2_with fail;refine (HCX.out _ (by exact I w1 _)).mono ?_;rintro e w2 ⟨cs8,rfl,ht8,hb8⟩;obtain⟨k8,v8,s8,n8,A8,a8,c8,B8,b8,d8,X8,x8,e8,hf8⟩:=ht8.tc.form;subst hf8;have HB2:Hid (Below W.heap.size W w2):=HB1.out.trans (((I w1 _).trans (hb8.mono (I w1 _).size)).mono HB1.out.size);have HK2:=zH ((HK1.out.to (I w1 _)).to hb8);have HT8:=zH (ht8.mono (B':=W.heap.size+2) (by have:=HK1.out.lt;simp;omega));clear ht8 hb8 HCX HB1 HK1;obtain⟨r0,r1,r2,r3,r4,r5,r6⟩:=HK2.out.s7;obtain⟨z0,z1,z2,z3,z4,z5,z6⟩:=HK2.out.z7;go_wp2_with fail;refine bodyPost_ret (v:=.agg #[.int .i64 k8,.int .i64 v8,.string s8,.bool n8,.slice A8 a8 c8,.slice B8 b8 d8,.slice X8 x8 e8]) (by rw[aD rfl];go_simp) rfl ?_;refine⟨[.int .i64 k8,.int .i64 v8,.string s8,.bool n8,.slice A8 a8 c8,.slice B8 b8 d8,.slice X8 x8 e8],rfl,(HT8.out.to (by simp) fun b hb _=>?_).mono (Nat.le_succ _),((((((HB2.out.setCell (Nat.le_succ _) _).setCell (Nat.le_succ _) _).setCell (Nat.le_succ _) _).setCell (Nat.le_succ _) _).setCell (Nat.le_succ _) _).setCell (Nat.le_succ _) _).setCell (Nat.le_succ _) _⟩;have hbr:b≠W.heap.size+1:=by omega
     repeat rw[Below.heap_setCell _ _ _ b hbr]
    |none=>
     rw[hfv]at HBV;simp only[Option.isSome_none]at HBV;go_wp2_with fail;refine (HBV.out _ (by exact HWB.out.trans (HB5.out.mono HWB.out.size))).mono ?_;rintro e w1 ⟨cx,tx,rfl,htx,hx,hb1⟩;obtain⟨k7,v7,s7,n7,A7,a7,c7,B7,b7,d7,X7,x7,e7,hf7⟩:=htx.form;subst hf7;have HB1:Hid (Below W.heap.size W (w1.alloc (.cells #[.int .i64 k7,.int .i64 v7,.string s7,.bool n7,.slice A7 a7 c7,.slice B7 b7 d7,.slice X7 x7 e7] 27))):=HB5.out.trans ((hb1.trans ((I w1 _).mono hb1.size)).mono HB5.out.size);have HKA1:=zH ((HKA5.out.to hb1).to (I w1 (.cells #[.int .i64 k7,.int .i64 v7,.string s7,.bool n7,.slice A7 a7 c7,.slice B7 b7 d7,.slice X7 x7 e7] 27)));have HKR1:=zH ((HKR5.out.to hb1).to (I w1 (.cells #[.int .i64 k7,.int .i64 v7,.string s7,.bool n7,.slice A7 a7 c7,.slice B7 b7 d7,.slice X7 x7 e7] 27)));have HE:=zH (HRP.out.2.1 HK1E.out hfv);clear htx hx hb1 hen HBV HB5 HKA5 HKR5 HRP hfv HK1E HBY;go_wp2_with fail
     go_meet
     case rel=>exact⟨_,rfl,HKA1.out,HB1.out,HKR1.out,HE.out⟩
   ·have hkb:(k==1)=false:=beq_eq_false_iff_ne.2 hk1;have HE:=zH (HRP.out.2.2 hk1);clear HRP hk1 HBY;go_wp2_with fail
    go_meet
    case rel=>exact⟨_,rfl,HKA5.out,HB5.out,HKR5.out,HE.out⟩
  case rest=>
   clear HBY HSF HEN HRP HKA5 HB5 HKR5;obtain⟨W5,rfl,HKA1,HB1,HKR1,HE⟩:=hcut;obtain rfl:=HE.out;clear HE;go_wp2_with fail;have HKA:Hid (af W5.drew W.heap.size 27 #[.int .i64 k,.int .i64 v,.string s,.bool ng,.slice A1 m1 q1,.slice B1 m2 q2,.slice Ar l cap]):=HKA1.out.drew;have HT0:Hid (W.heap.size<W5.drew.heap.size):=HKA.out.lt;have HB0:Hid (Below W.heap.size W W5.drew):=HB1.out.drew;have HKR:Hid (af W5.drew (W.heap.size+1) 27 #[.int .i64 0,.int .i64 0,.string ⟨#[]⟩,.bool false,.slice none 0 0,.slice none 0 0,.slice none 0 0]):=HKR1.out.drew;have HWK:Hid (∀ W',ah (fun k=>k=W.heap.size) W5.drew W'->Below w.heap.size w W'):=fun W' hk=>HWB.out.trans ((HB0.out.trans (hk.below HB0.out.size fun k hk=>by omega)).mono HWB.out.size);clear HKA1 HKR1 HB1;refine wp_region_held_drew (S:=fun _=>True) (by kernel_rfl) trivial (fun hHeld=>?_)
   (refine zT 0 ?_;try simp only[Act.put,L1,L2])
   (refine zT 1 ?_;try simp only[Act.put,L1,L2])
   (refine zT 4 ?_;try simp only[Act.put,L1,L2])
   (refine zT 5 ?_;try simp only[Act.put,L1,L2])
   refine gw [2,3,6,7,8,9,10,11,12,13] (fun aa L a W'=>∃ s8 s9 s12 s13 s14 s15 s16 s17,a=((((((((aa.put (some 25) s8).put (some 26) s9).put (some 29) s12).put (some 30) s13).put (some 31) s14).put (some 32) s15).put (some 33) s16).put (some 34) s17)/\aG W5.drew W.heap.size (.int .i64 k) (.int .i64 v) (.string s) (.bool ng) (.slice A1 m1 q1) (.slice B1 m2 q2) (.slice Ar l cap) xs ys L s8 s9 s12 s13 s14 s15 s16 s17 W') (by kernel_rfl) (by kernel_rfl) (by decide) (by kernel_rfl) ?hS ?init ?steps ?done
   case hS=>exact fun _ _ _ _=>trivial
   case init=>
    refine⟨u25,u26,u29,u30,u31,u32,u33,u34,(by simp only[Act.put,L1]),⟨ah.refl _ _,HT0.out⟩,HKA.out,?_,?_,?_,?_,?_,?_,?_,?_,?_,?_⟩<;>(intro h;exact absurd h (by decide))
   case steps=>
    refine aN.cons (i:=2) rfl ?_ (aN.cons (i:=3) rfl ?_ (aN.cons (i:=6) rfl ?_ (aN.cons (i:=7) rfl ?_ (aN.cons (i:=8) rfl ?_ (aN.cons (i:=9) rfl ?_ (aN.cons (i:=10) rfl ?_ (aN.cons (i:=11) rfl ?_ (aN.cons (i:=12) rfl ?_ (aN.cons (i:=13) rfl ?_ aN.nil)))))))))
    ·rintro L a W' ⟨s8,s9,s12,s13,s14,s15,s16,s17,rfl,hI⟩ hL hdep K hK;have HI:=zH hI;have HL:=zH hL;clear hI;simp only[Act.put,L1];clear hL hdep;have c4:=HI.out.cell4 HL.out;go_simp;exact hK.out _ _ ⟨.slice A1 m1 q1,s9,s12,s13,s14,s15,s16,s17,(by simp only[Act.put,L1]),HI.out.load2⟩
    ·rintro L a W' ⟨s8,s9,s12,s13,s14,s15,s16,s17,rfl,hI⟩ hL hdep K hK;have HI:=zH hI;have HL:=zH hL;clear hI;simp only[Act.put,L1];have hd:L 2=true:=by simp[Region.binds]at hdep;simp[hdep]
     have HD:=zH hd;clear hd hL hdep;obtain rfl:=HI.out.2.2.1 HD.out;go_simp;refine (HCA.out _ (by exact HWK.out _ HI.out.1.1)).mono ?_;rintro e w1 ⟨v1,rfl,hv1,hb1⟩;have hT:=HI.out.1.1.size;exact hK.out _ _ ⟨.slice A1 m1 q1,v1,s12,s13,s14,s15,s16,s17,(by simp only[Act.put,L1]),HI.out.call3 HL.out hb1 (Joins.ownsRow_le hv1 hT)⟩
    ·rintro L a W' ⟨s8,s9,s12,s13,s14,s15,s16,s17,rfl,hI⟩ hL hdep K hK;have HI:=zH hI;have HL:=zH hL;clear hI;simp only[Act.put,L1];clear hL hdep;have c5:=HI.out.cell5 HL.out;go_simp;exact hK.out _ _ ⟨s8,s9,.slice B1 m2 q2,s13,s14,s15,s16,s17,(by simp only[Act.put,L1]),HI.out.load6⟩
    ·rintro L a W' ⟨s8,s9,s12,s13,s14,s15,s16,s17,rfl,hI⟩ hL hdep K hK;have HI:=zH hI;have HL:=zH hL;clear hI;simp only[Act.put,L1];have hd:L 6=true:=by simp[Region.binds]at hdep;simp[hdep]
     have HD:=zH hd;clear hd hL hdep;obtain rfl:=HI.out.2.2.2.1 HD.out;go_simp;refine (HCB.out _ (by exact HWK.out _ HI.out.1.1)).mono ?_;rintro e w1 ⟨v1,rfl,hv1,hb1⟩;have hT:=HI.out.1.1.size;exact hK.out _ _ ⟨s8,s9,.slice B1 m2 q2,v1,s14,s15,s16,s17,(by simp only[Act.put,L1]),HI.out.call7 HL.out hb1 (Joins.ownsRow_le hv1 hT)⟩
    ·rintro L a W' ⟨s8,s9,s12,s13,s14,s15,s16,s17,rfl,hI⟩ hL hdep K hK;have HI:=zH hI;have HL:=zH hL;clear hI;simp only[Act.put,L1];clear hL hdep;go_simp;exact hK.out _ _ ⟨s8,s9,s12,s13,.pointer (some ⟨W.heap.size,3,none⟩),s15,s16,s17,(by simp only[Act.put,L1]),HI.out.addr8⟩
    ·rintro L a W' ⟨s8,s9,s12,s13,s14,s15,s16,s17,rfl,hI⟩ hL hdep K hK;have HI:=zH hI;have HL:=zH hL;clear hI;simp only[Act.put,L1];have hd:L 8=true:=by simp[Region.binds]at hdep;simp[hdep]
     have HD:=zH hd;clear hd hL hdep;obtain rfl:=HI.out.2.2.2.2.2.2.1 HD.out;go_simp;exact hK.out _ _ ⟨s8,s9,s12,s13,.pointer (some ⟨W.heap.size,3,none⟩),.pointer (some ⟨W.heap.size,4,none⟩),s16,s17,(by simp only[Act.put,L1]),HI.out.addr9⟩
    ·rintro L a W' ⟨s8,s9,s12,s13,s14,s15,s16,s17,rfl,hI⟩ hL hdep K hK;have HI:=zH hI;have HL:=zH hL;clear hI;simp only[Act.put,L1];have hd:L 9=true/\L 3=true/\L 2=true:=by simp[Region.binds]at hdep;simp[hdep]
     have HD:=zH hd;clear hd hL hdep;obtain rfl:=HI.out.2.2.2.2.2.2.2.1 HD.out.1;obtain⟨A9,c9,rfl⟩:=bj (HI.out.2.2.2.2.1 HD.out.2.1);have f4:=HI.out.2.1.frozen 4;have hT:=HI.out.2.1.lt;have k4:=HI.out.2.1.cell 4;simp only[L3]at k4;go_simp;exact hK.out _ _ ⟨s8,.slice A9 xs.length c9,s12,s13,s14,.pointer (some ⟨W.heap.size,4,none⟩),s16,s17,(by simp only[Act.put,L1]),HI.out.store10 HD.out.2.2 HD.out.2.1⟩
    ·rintro L a W' ⟨s8,s9,s12,s13,s14,s15,s16,s17,rfl,hI⟩ hL hdep K hK;have HI:=zH hI;have HL:=zH hL;clear hI;simp only[Act.put,L1];clear hL hdep;go_simp;exact hK.out _ _ ⟨s8,s9,s12,s13,s14,s15,.pointer (some ⟨W.heap.size,3,none⟩),s17,(by simp only[Act.put,L1]),HI.out.addr11⟩
    ·rintro L a W' ⟨s8,s9,s12,s13,s14,s15,s16,s17,rfl,hI⟩ hL hdep K hK;have HI:=zH hI;have HL:=zH hL;clear hI;simp only[Act.put,L1];have hd:L 11=true:=by simp[Region.binds]at hdep;simp[hdep]
     have HD:=zH hd;clear hd hL hdep;obtain rfl:=HI.out.2.2.2.2.2.2.2.2.1 HD.out;go_simp;exact hK.out _ _ ⟨s8,s9,s12,s13,s14,s15,.pointer (some ⟨W.heap.size,3,none⟩),.pointer (some ⟨W.heap.size,5,none⟩),(by simp only[Act.put,L1]),HI.out.addr12⟩
    ·rintro L a W' ⟨s8,s9,s12,s13,s14,s15,s16,s17,rfl,hI⟩ hL hdep K hK;have HI:=zH hI;have HL:=zH hL;clear hI;simp only[Act.put,L1];have hd:L 12=true/\L 7=true/\L 6=true:=by simp[Region.binds]at hdep;simp[hdep]
     have HD:=zH hd;clear hd hL hdep;obtain rfl:=HI.out.2.2.2.2.2.2.2.2.2.1 HD.out.1;obtain⟨A9,c9,rfl⟩:=bj (HI.out.2.2.2.2.2.1 HD.out.2.1);have f5:=HI.out.2.1.frozen 5;have hT:=HI.out.2.1.lt;have k5:=HI.out.2.1.cell 5;simp only[L3]at k5;go_simp;exact hK.out _ _ ⟨s8,s9,s12,.slice A9 ys.length c9,s14,s15,s16,.pointer (some ⟨W.heap.size,5,none⟩),(by simp only[Act.put,L1]),HI.out.store13 HD.out.2.2 HD.out.2.1⟩
   case done=>
    rintro L a W1 ⟨s8,s9,s12,s13,s14,s15,s16,s17,rfl,hI⟩ hall;simp only[Act.put,L1];obtain⟨hk1,hkT,ho9,ho13⟩:=hI.done hall;obtain⟨A9,c9,rfl⟩:=bj ho9;obtain⟨A13,c13,rfl⟩:=bj ho13;have KR:=zH (hk1.blk HKR.out (by omega));have KT:=zH hkT;have HK1:=zH hk1;have O9:=zH ho9;have O13:=zH ho13;have HB1:Hid (Below W.heap.size W W1):=HB0.out.trans (hk1.below HB0.out.size fun k hk=>by omega);clear hI hall hHeld hk1 hkT ho9 ho13;obtain⟨t0,t1,t2,t3,t4,t5,t6⟩:=KT.out.s7;have y6:=KT.out.frozen 6;obtain⟨r0,r1,r2,r3,r4,r5,r6⟩:=KR.out.s7;obtain⟨z0,z1,z2,z3,z4,z5,z6⟩:=KR.out.z7;have hW2:W.heap.size+1<(W5.drew).heap.size:=HKR.out.lt;have HN2:=zH hW2;clear hW2;by_cases hl0:l=0
    ·subst hl0;go_wp2_with fail;refine bodyPost_ret (v:=.agg #[.int .i64 k,.int .i64 v,.string s,.bool ng,.slice A9 xs.length c9,.slice A13 ys.length c13,.slice none 0 0]) (by rw[aD rfl];go_simp) rfl ?_;have far:∀ (Wx:World) (g i:Nat) (u v':Value) (n':Nat) (zs:List Value),g<=W.heap.size+1->Wx.ownsRow W5.drew.heap.size 82 1 v' n' zs->(Wx.setCell ⟨g,i,none⟩ u).ownsRow W5.drew.heap.size 82 1 v' n' zs:=fun Wx g i u v' n' zs hg hr=>eo hr (by have:=HN2.out;omega);have hle:W.heap.size+1<=W5.drew.heap.size:=by have:=HN2.out;omega
     have hz:=fun (Wf:World) (h9:aK .u32 82 Wf (W.heap.size+1) (.slice A9 xs.length c9) xs) (h13:aK .u32 82 Wf (W.heap.size+1) (.slice A13 ys.length c13) ys)=>HMK.out (.slice A9 xs.length c9) (.slice A13 ys.length c13) none 0 (fun _=>[]) (W.heap.size+1) Wf h9 h13 (by rw[HLR.out];exact Nat.le_refl _) (by unfold maxLen;omega) (.inl ⟨rfl,HLR.out⟩);simp only[HLR.out]at hz;refine⟨_,rfl,hz _ (Joins.ownsRow_le (far _ _ _ _ _ _ _ (Nat.le_refl _) (far _ _ _ _ _ _ _ (Nat.le_refl _) (far _ _ _ _ _ _ _ (Nat.le_refl _) (far _ _ _ _ _ _ _ (Nat.le_refl _) (far _ _ _ _ _ _ _ (Nat.le_refl _) (far _ _ _ _ _ _ _ (Nat.le_refl _) (far _ _ _ _ _ _ _ (Nat.le_refl _) (far _ _ _ _ _ _ _ (Nat.le_succ _) O9.out)))))))) hle) (Joins.ownsRow_le (far _ _ _ _ _ _ _ (Nat.le_refl _) (far _ _ _ _ _ _ _ (Nat.le_refl _) (far _ _ _ _ _ _ _ (Nat.le_refl _) (far _ _ _ _ _ _ _ (Nat.le_refl _) (far _ _ _ _ _ _ _ (Nat.le_refl _) (far _ _ _ _ _ _ _ (Nat.le_refl _) (far _ _ _ _ _ _ _ (Nat.le_refl _) (far _ _ _ _ _ _ _ (Nat.le_succ _) O13.out)))))))) hle),?_⟩;exact (((((((HB1.out.setCell (Nat.le_refl _) _).setCell (Nat.le_succ _) _).setCell (Nat.le_succ _) _).setCell (Nat.le_succ _) _).setCell (Nat.le_succ _) _).setCell (Nat.le_succ _) _).setCell (Nat.le_succ _) _).setCell (Nat.le_succ _) _
    ·have hl1:((l:Int)==0)=false:=beq_eq_false_iff_ne.2 (by omega);clear r0 r1 r2 r3 r4 r5 r6 z0 z1 z2 z3 z4 z5 z6
     go_wp2_with (at_make;refine wpList_make_full _ rfl _ _ 25 rfl W1.heap.size 27 i0 (.agg zt.toArray) 7 Tryz.underlying25 HI0.out HZ0.out HZ1.out .i64 .i64 _ _ l rfl rfl (by omega) (by omega) (by rw[HZ2.out];omega) (by unfold maxLen;omega) (Nat.le_refl _) ?_;intro w2 hown2 hg2;have HB2:Hid (Below W1.heap.size W1 w2):=(Below.refl _ _).grown hg2 (Nat.le_refl _) (by simp);have KT2:=zH (KT.out.to HB2.out);have d6:=KT2.out.cell 6;simp only[L3]at d6;have HARR:=zH (nF hown2);clear hown2 hg2)
     have HWW:Hid (Below w.heap.size w W1):=HWK.out _ HK1.out
     go_loopg [48] l (fun gk s48 wr=>∃ (j:Nat) (arr:Array Value) (vals:Nat->List Value),gk+j=l/\s48=.int .i64 (j:Int)/\Hid (af wr W1.heap.size 27 arr)/\arr.size=l*7/\Hid (Below W1.heap.size W1 wr)/\Hid (∀ i,i<j->∀ q,q<7->arr[i*7+q]?=(vals i)[q]?)/\Hid (kS (W1.heap.size+1) wr rs vals j))
     case atStart=>
      obtain⟨arr,h1,h2⟩:=HARR.out;exact⟨0,arr,fun _=>[],by omega,rfl,h1,h2,HB2.out,fun i hi=>absurd hi (by omega),kS.none _ _ _ _⟩
     case round=>
      obtain⟨j,arr,vals,hgj,rfl,HG,hsz,HB,HV,HT⟩:=hrel;by_cases hj:j<l
      ·have hja:j<args.length:=by rw[HL.out];exact hj
       have HBW:=HWW.out.trans (HB.out.mono HWW.out.size);obtain⟨b,o,k',v',s',ng',A2,n2,c2,B2,m3,d2,Xr,xl,xc,hAr,hcs,hlt,e0,e1,e2,e3,e4,e5,e6⟩:=aO HR.out HA.out HBW hja;subst hAr;have hjr:j<rs.length:=by rw[HLR.out];exact hj
       have HCALL:=IH.out j hja hjr (wr.alloc (.cells #[.int .i64 k',.int .i64 v',.string s',.bool ng',.slice A2 n2 c2,.slice B2 m3 d2,.slice Xr xl xc] 27)) (HBW.trans ((I wr (.cells #[.int .i64 k',.int .i64 v',.string s',.bool ng',.slice A2 n2 c2,.slice B2 m3 d2,.slice Xr xl xc] 27)).mono HBW.size));rw[hcs]at HCALL;have HCALL:=zH HCALL;go_wp2_with fail;refine HCALL.out.mono ?_;rintro e w3 ⟨cs5,rfl,ht5,hb5⟩;obtain⟨k5,v5,s5,ng5,A5,n5,c5,B5,m5,d5,X5,l5,xc5,hf5⟩:=ht5.tc.form;subst hf5;have HA3:=zH ((I wr (.cells #[.int .i64 k',.int .i64 v',.string s',.bool ng',.slice A2 n2 c2,.slice B2 m3 d2,.slice Xr xl xc] 27)).trans (hb5.mono (I wr (.cells #[.int .i64 k',.int .i64 v',.string s',.bool ng',.slice A2 n2 c2,.slice B2 m3 d2,.slice Xr xl xc] 27)).size));have HB3:=zH (HB.out.trans (HA3.out.mono HB.out.size));have HG3:=zH (HG.out.to HA3.out);have H5:=zH (HT.out.add HA3.out.size (fun b _ hb=>HA3.out.block b hb) (by have:=HB.out.size;simp;omega) (by simp;omega) hjr ht5);clear ht5 hb5 HCALL e0 e1 e2 e3 e4 e5 e6 hcs;obtain⟨x0,hx0⟩:∃ x,w3.cell? ⟨W1.heap.size,j*7,none⟩=some x:=⟨arr[j*7]'(by omega),by rw[HG3.out.cell];exact Array.getElem?_eq_getElem (by omega)⟩;have fx0:=HG3.out.frozen (j*7);obtain⟨x1,hx1⟩:∃ x,w3.cell? ⟨W1.heap.size,j*7+1,none⟩=some x:=⟨arr[j*7+1]'(by omega),by rw[HG3.out.cell];exact Array.getElem?_eq_getElem (by omega)⟩;have fx1:=HG3.out.frozen (j*7+1);obtain⟨x2,hx2⟩:∃ x,w3.cell? ⟨W1.heap.size,j*7+2,none⟩=some x:=⟨arr[j*7+2]'(by omega),by rw[HG3.out.cell];exact Array.getElem?_eq_getElem (by omega)⟩;have fx2:=HG3.out.frozen (j*7+2);obtain⟨x3,hx3⟩:∃ x,w3.cell? ⟨W1.heap.size,j*7+3,none⟩=some x:=⟨arr[j*7+3]'(by omega),by rw[HG3.out.cell];exact Array.getElem?_eq_getElem (by omega)⟩;have fx3:=HG3.out.frozen (j*7+3);obtain⟨x4,hx4⟩:∃ x,w3.cell? ⟨W1.heap.size,j*7+4,none⟩=some x:=⟨arr[j*7+4]'(by omega),by rw[HG3.out.cell];exact Array.getElem?_eq_getElem (by omega)⟩;have fx4:=HG3.out.frozen (j*7+4);obtain⟨x5,hx5⟩:∃ x,w3.cell? ⟨W1.heap.size,j*7+5,none⟩=some x:=⟨arr[j*7+5]'(by omega),by rw[HG3.out.cell];exact Array.getElem?_eq_getElem (by omega)⟩;have fx5:=HG3.out.frozen (j*7+5);obtain⟨x6,hx6⟩:∃ x,w3.cell? ⟨W1.heap.size,j*7+6,none⟩=some x:=⟨arr[j*7+6]'(by omega),by rw[HG3.out.cell];exact Array.getElem?_eq_getElem (by omega)⟩;have fx6:=HG3.out.frozen (j*7+6);go_wp2_with fail
       go_roundg (gk-1)
       case measure=>omega
       case rel=>
        have keep:∀ (t:Nat->List Value) (c:Nat),kS (W1.heap.size+1) w3 rs t c->kS (W1.heap.size+1) (((((((w3.setCell ⟨W1.heap.size,j*7,none⟩ (.int .i64 k5)).setCell ⟨W1.heap.size,j*7+1,none⟩ (.int .i64 v5)).setCell ⟨W1.heap.size,j*7+2,none⟩ (.string s5)).setCell ⟨W1.heap.size,j*7+3,none⟩ (.bool ng5)).setCell ⟨W1.heap.size,j*7+4,none⟩ (.slice A5 n5 c5)).setCell ⟨W1.heap.size,j*7+5,none⟩ (.slice B5 m5 d5)).setCell ⟨W1.heap.size,j*7+6,none⟩ (.slice X5 l5 xc5)) rs t c:=fun t c ht=>ht.to (by simp) (fun b hb _=>(Below.heap_setCell _ ⟨W1.heap.size,j*7+6,none⟩ _ b (show b≠W1.heap.size by omega)).trans ((Below.heap_setCell _ ⟨W1.heap.size,j*7+5,none⟩ _ b (show b≠W1.heap.size by omega)).trans ((Below.heap_setCell _ ⟨W1.heap.size,j*7+4,none⟩ _ b (show b≠W1.heap.size by omega)).trans ((Below.heap_setCell _ ⟨W1.heap.size,j*7+3,none⟩ _ b (show b≠W1.heap.size by omega)).trans ((Below.heap_setCell _ ⟨W1.heap.size,j*7+2,none⟩ _ b (show b≠W1.heap.size by omega)).trans ((Below.heap_setCell _ ⟨W1.heap.size,j*7+1,none⟩ _ b (show b≠W1.heap.size by omega)).trans ((Below.heap_setCell _ ⟨W1.heap.size,j*7,none⟩ _ b (show b≠W1.heap.size by omega)).trans (rfl))))))));refine⟨j+1,(((((((arr.setIfInBounds (j*7) (.int .i64 k5)).setIfInBounds (j*7+1) (.int .i64 v5)).setIfInBounds (j*7+2) (.string s5)).setIfInBounds (j*7+3) (.bool ng5)).setIfInBounds (j*7+4) (.slice A5 n5 c5)).setIfInBounds (j*7+5) (.slice B5 m5 d5)).setIfInBounds (j*7+6) (.slice X5 l5 xc5)),fun i=>if i=j then [.int .i64 k5,.int .i64 v5,.string s5,.bool ng5,.slice A5 n5 c5,.slice B5 m5 d5,.slice X5 l5 xc5] else vals i,by omega,by go_num,(((((((HG3.out.set_ (j*7) (.int .i64 k5)).set_ (j*7+1) (.int .i64 v5)).set_ (j*7+2) (.string s5)).set_ (j*7+3) (.bool ng5)).set_ (j*7+4) (.slice A5 n5 c5)).set_ (j*7+5) (.slice B5 m5 d5)).set_ (j*7+6) (.slice X5 l5 xc5)),by simp;omega,(((((((HB3.out.setCell (Nat.le_refl _) _).setCell (Nat.le_refl _) _).setCell (Nat.le_refl _) _).setCell (Nat.le_refl _) _).setCell (Nat.le_refl _) _).setCell (Nat.le_refl _) _).setCell (Nat.le_refl _) _),fun i hi q hq=>?_,keep _ _ H5.out⟩
        ·by_cases hij:i=j
         ·subst hij;have h7:q=0\/q=1\/q=2\/q=3\/q=4\/q=5\/q=6:=by omega
          rcases h7 with rfl|rfl|rfl|rfl|rfl|rfl|rfl<;>simp[Array.getElem?_setIfInBounds]<;>omega
         ·have hi2:i<j:=by omega
          dsimp only;rw[if_neg hij,<-HV.out i hi2 q hq];simp only[Array.getElem?_setIfInBounds]
          repeat rw[if_neg (by omega)]
      ·have hjl:j=l:=by omega
       have KTr:=KT.out.to HB.out;have KRr:=KR.out.to HB.out;obtain⟨d0q,d1q,d2q,d3q,d4q,d5q,d6q⟩:=KTr.s7;have y6q:=KTr.frozen 6;obtain⟨r0,r1,r2,r3,r4,r5,r6⟩:=KRr.s7;obtain⟨z0,z1,z2,z3,z4,z5,z6⟩:=KRr.z7;have hs1:=HK1.out.size;have hs2:=HB.out.size;have hs3:=HN2.out;have HG0:=HG.out.lt;clear KTr KRr t0 t1 t2 t3 t4 t5 t6;go_wp2_with fail;refine bodyPost_ret (v:=.agg #[.int .i64 k,.int .i64 v,.string s,.bool ng,.slice A9 xs.length c9,.slice A13 ys.length c13,.slice (some ⟨W1.heap.size,0,none⟩) l l]) (by rw[aD rfl];go_simp) rfl ?_;have far:∀ (Wx:World) (g i:Nat) (u v':Value) (n':Nat) (zs:List Value),g<=W.heap.size+1->Wx.ownsRow W5.drew.heap.size 82 1 v' n' zs->(Wx.setCell ⟨g,i,none⟩ u).ownsRow W5.drew.heap.size 82 1 v' n' zs:=fun Wx g i u v' n' zs hg hr=>eo hr (by omega);have hle:W.heap.size+1<=W5.drew.heap.size:=by omega
       have hWf:∀ b,W.heap.size+1<b->((((((((wr.setCell ⟨W.heap.size,6,none⟩ (.slice (some ⟨W1.heap.size,0,none⟩) l l)).setCell ⟨W.heap.size+1,0,none⟩ (.int .i64 k)).setCell ⟨W.heap.size+1,1,none⟩ (.int .i64 v)).setCell ⟨W.heap.size+1,2,none⟩ (.string s)).setCell ⟨W.heap.size+1,3,none⟩ (.bool ng)).setCell ⟨W.heap.size+1,4,none⟩ (.slice A9 xs.length c9)).setCell ⟨W.heap.size+1,5,none⟩ (.slice A13 ys.length c13)).setCell ⟨W.heap.size+1,6,none⟩ (.slice (some ⟨W1.heap.size,0,none⟩) l l)).heap[b]?=wr.heap[b]?:=fun b hb=>(Below.heap_setCell _ ⟨W.heap.size+1,6,none⟩ _ b (show b≠W.heap.size+1 by omega)).trans ((Below.heap_setCell _ ⟨W.heap.size+1,5,none⟩ _ b (show b≠W.heap.size+1 by omega)).trans ((Below.heap_setCell _ ⟨W.heap.size+1,4,none⟩ _ b (show b≠W.heap.size+1 by omega)).trans ((Below.heap_setCell _ ⟨W.heap.size+1,3,none⟩ _ b (show b≠W.heap.size+1 by omega)).trans ((Below.heap_setCell _ ⟨W.heap.size+1,2,none⟩ _ b (show b≠W.heap.size+1 by omega)).trans ((Below.heap_setCell _ ⟨W.heap.size+1,1,none⟩ _ b (show b≠W.heap.size+1 by omega)).trans ((Below.heap_setCell _ ⟨W.heap.size+1,0,none⟩ _ b (show b≠W.heap.size+1 by omega)).trans ((Below.heap_setCell _ ⟨W.heap.size,6,none⟩ _ b (show b≠W.heap.size by omega)).trans rfl)))))));have HTL:kS (W1.heap.size+1) wr rs vals l:=by
        have h:=HT.out;rw[hjl]at h;exact h
       have hz:=HMK.out (.slice A9 xs.length c9) (.slice A13 ys.length c13) (some ⟨W1.heap.size,0,none⟩) l vals (W.heap.size+1) ((((((((wr.setCell ⟨W.heap.size,6,none⟩ (.slice (some ⟨W1.heap.size,0,none⟩) l l)).setCell ⟨W.heap.size+1,0,none⟩ (.int .i64 k)).setCell ⟨W.heap.size+1,1,none⟩ (.int .i64 v)).setCell ⟨W.heap.size+1,2,none⟩ (.string s)).setCell ⟨W.heap.size+1,3,none⟩ (.bool ng)).setCell ⟨W.heap.size+1,4,none⟩ (.slice A9 xs.length c9)).setCell ⟨W.heap.size+1,5,none⟩ (.slice A13 ys.length c13)).setCell ⟨W.heap.size+1,6,none⟩ (.slice (some ⟨W1.heap.size,0,none⟩) l l)) (Joins.ownsRow_le (far _ _ _ _ _ _ _ (Nat.le_refl _) (far _ _ _ _ _ _ _ (Nat.le_refl _) (far _ _ _ _ _ _ _ (Nat.le_refl _) (far _ _ _ _ _ _ _ (Nat.le_refl _) (far _ _ _ _ _ _ _ (Nat.le_refl _) (far _ _ _ _ _ _ _ (Nat.le_refl _) (far _ _ _ _ _ _ _ (Nat.le_refl _) (far _ _ _ _ _ _ _ (Nat.le_succ _) (f9 O9.out HB.out))))))))) hle) (Joins.ownsRow_le (far _ _ _ _ _ _ _ (Nat.le_refl _) (far _ _ _ _ _ _ _ (Nat.le_refl _) (far _ _ _ _ _ _ _ (Nat.le_refl _) (far _ _ _ _ _ _ _ (Nat.le_refl _) (far _ _ _ _ _ _ _ (Nat.le_refl _) (far _ _ _ _ _ _ _ (Nat.le_refl _) (far _ _ _ _ _ _ _ (Nat.le_refl _) (far _ _ _ _ _ _ _ (Nat.le_succ _) (f9 O13.out HB.out))))))))) hle) (by rw[HLR.out];exact Nat.le_refl _) (by unfold maxLen;omega) (.inr ⟨W1.heap.size,rfl,by rw[HLR.out];exact HTL.to (by simp) (fun b hb _=>hWf b (by omega)),by omega,by simp;omega,⟨arr,(hWf W1.heap.size (by omega)).trans HG.out⟩,fun i hi q hq=>by rw[Nat.zero_add];exact (World.cell?_of_block (a:=⟨W1.heap.size,i*7+q,none⟩) (hWf W1.heap.size (by omega))).trans ((HG.out.cell _).trans (HV.out i (by rw[HLR.out]at hi;omega) q hq))⟩);rw[HLR.out]at hz;refine⟨_,rfl,hz,?_⟩;have HBR:Below W.heap.size W wr:=HB1.out.trans (HB.out.mono HB1.out.size);exact (((((((HBR.setCell (Nat.le_refl _) _).setCell (Nat.le_succ _) _).setCell (Nat.le_succ _) _).setCell (Nat.le_succ _) _).setCell (Nat.le_succ _) _).setCell (Nat.le_succ _) _).setCell (Nat.le_succ _) _).setCell (Nat.le_succ _) _
theorem hG {w:World} (fby:FuncId) (bc:Nat) (hen:∀ args w,(callFunc fby args).run Tryz.prog w=.ok (.enter fby args) w) (f:Int->Option Tm) (hsf:∀ v x,f v=some x->x.sm) (hby:∀ v W,Below w.heap.size w W->Calls Tryz.prog fby #[.int .i64 v,.pointer (some ⟨bc,0,none⟩)] W fun e W'=>∃ cx tx,e=.returned (.tuple #[.agg cx.toArray,.bool (f v).isSome])/\TC W' tx cx/\(∀ x,f v=some x->tx=x)/\Below W.heap.size W W')
 {t:Tm} {cs:List Value} (h:TC w t cs) (hs:t.sm):∀ (W:World),Below w.heap.size w W->
 Calls Tryz.prog 19 #[.agg cs.toArray,.func (.func fby) #[] #[.pointer (some ⟨bc,0,none⟩)]] W fun e W'=>∃ cs',e=.returned (.agg cs'.toArray)/\fF (W.heap.size+1) W' (t.repl f) cs'/\Below W.heap.size W W':=mx (fun _=>True) fby bc hen f hsf (fun v W _ hb=>hby v W hb) h hs (oj (fun _=>trivial) t)
end Go.Proofs.YtlhojoefhannnaaGreat

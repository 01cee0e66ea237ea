/- What the reference's Unified needs. And 2 more texts. -/
import Derived.Maps.OwnSet
import Derived.Test.YtlhojoefhannnaaGreatJx27
import Derived.Test.YtlhojoefhannnaaGreatJx28
set_option linter.unusedVariables false
set_option linter.unusedSimpArgs false
set_option maxRecDepth 100000
set_option maxHeartbeats 51200000
namespace Go.Proofs.YtlhojoefhannnaaGreat
open Go.Proofs.Tryz Go.RowKit NumB
def NC (w:World) (p:Nat->Prop):Prop:=∀ k,p k->∀ i,w.cell? ⟨k,i,none⟩=none
theorem iK.overN {R p:Nat->Prop} {w:World} {v:Value} {xs:List Nat} (h:iK R w v xs) (j:NC w p):iK (fun b=>R b/\¬p b) w v xs:=by
 obtain⟨A,k,e,f,g,i⟩:=h;refine⟨A,k,e,f,g,fun c=>?_⟩;obtain⟨b,o,e,l,a,d⟩:=i c;refine⟨b,o,e,⟨l,fun q=>?_⟩,a,d⟩;have:=d 0 c;rw[j b q]at this;cases this
theorem bF.overN' {R p:Nat->Prop} {w:World} {t:Tm} {cs:List Value} (h:bF R w t cs) (l:NC w p):bF (fun b=>R b/\¬p b) w t cs:=by
 induction h with
 |mk k v s n a A C r d cs E J I y z F c j G B L=>
  refine .mk k v s n a A C r d cs E J I (y.overN l) (z.overN l) F c j (fun f=>?_) L;obtain⟨b,o,e,m,i,q⟩:=G f;refine⟨b,o,e,⟨m,fun x=>?_⟩,i,q⟩;have g:=q 0 f 0 (by omega);rw[l b x]at g;obtain⟨_,_,_,_,_,_,_,_,_,_,_,_,_,D⟩:=(B 0 f).form;rw[D]at g;cases g
theorem bF.overN {R p:Nat->Prop} {w w':World} {t:Tm} {cs:List Value} (h:bF R w t cs) (d:ag p w w') (e:NC w p):bF R w' t cs:=((h.overN' e).to d.size fun b a c=>d.block b c a.2).mono fun b a _=>a.1
theorem TC.overN {p:Nat->Prop} {w w':World} {t:Tm} {cs:List Value} (h:TC w t cs) (a:ag p w w') (b:NC w p):TC w' t cs:=((bF.of_tc h).overN a b).tc
theorem BL.overN {p:Nat->Prop} {w w':World} {v:Value} {n:List (Int×Tm)} (h:BL w v n) (m:ag p w w') (y:NC w p):BL w' v n:=by
 obtain⟨z,f,A,e,B,C,D,t⟩:=h;refine⟨z,f,A,e,B,C,fun k=>?_,fun i l=>?_⟩
 ·obtain⟨b,o,e,c,x⟩:=D k;have F:¬p b:=fun q=>by
   have d:=x 0 k 0 (by omega);obtain⟨r,g,_⟩:=t 0 k;rw[y b q,g]at d;cases d
  exact⟨b,o,e,zD c m.size,fun i l j G=>(World.cell?_of_block (a:=⟨b,o+i*8+j,none⟩) (m.block b c F)).trans (x i l j G)⟩
 ·obtain⟨r,g,d,E⟩:=t i l;exact⟨r,g,d,E.overN m y⟩
theorem vU {w:World} {m:Nat} {o:Option Nat} {a:Nat} {s:Array Nat} {c:Nat} (h:w.heap[m]?=some (.mapIter o a s c)) (i:Nat):w.cell? ⟨m,i,none⟩=none:=by
 simp[World.cell?,h]
theorem rT {w:World} {b r n c:Nat} {D:DataW Value} {left:Lit->Bool} {k:TypeId} {R:Value->Option (DataW Value×List MemPlace)} (h:w.ranges prog k R b r n D left c) (i:Nat):w.cell? ⟨r,i,none⟩=none:=by
 obtain⟨g,a,d,seen,f,_,_,_,_,e,_⟩:=h;exact vU e i
theorem ij {w w':World} {b r n d:Nat} {D:DataW Value} {left:Lit->Bool} {k:TypeId} {R:Value->Option (DataW Value×List MemPlace)} (h:w.ranges prog k R b r n D left d) (i:w'.heap[b]?=w.heap[b]?) (j:w'.heap[r]?=w.heap[r]?):w'.ranges prog k R b r n D left d:=by
 obtain⟨g,a,c,seen,f,m,F,p,l,o,e⟩:=h;exact⟨g,a,c,seen,f,i.trans m,F,p,l,j.trans o,e⟩
theorem rG {w:World} {b n m:Nat} {f:Value->Option Value} {D:DataW Value} (h:aE bw w b n f) (o:w.ownsMap prog 3 sR b m D) {x:Int} (p:aG x):
 Maps.has D (.int .i64 x)=(f (.int .i64 x)).isSome/\∀ c,(∀ zd,D.atKey (.int .i64 x) zd=.held c)->f (.int .i64 x)=some c:=by
 obtain⟨v,q,j,l⟩:=o.look_ok (Maps.int_keyed underlying3) underlying67 (zeroValue3 w) (zd:=.held (.int .i64 0)) (zp:=[]) rfl (kQ p);have a:=(bI (bW w) (mt:=67) (by kernel_rfl) (z:=.int .i64 0) (zeroValue3 _) (k:=.int .i64 x) ⟨_,rfl⟩ h).1;rw[j]at a;simp only[Result.ok.injEq,Value.tuple.injEq,Array.mk.injEq,List.cons.injEq,Value.bool.injEq,and_true]at a;refine⟨a.2,fun c g=>?_⟩;have d:=Maps.has_true_of_atKey g;rw[a.2]at d;obtain⟨u,i⟩:=Option.isSome_iff_exists.1 d;rw[i,Option.getD_some]at a;have e:=zI l;rw[g,Prod.mk.injEq,DataW.held.injEq]at e;rw[i,<-a.1,e.1]
theorem GR.sm {w W:World} {d g z a y D E m3 m4 N:Nat} {rc:Nat->List Value} {ac:Nat->Value} {Ts:List Tm} {x:Nat->List Nat} (h:GR w d g z a y D E m3 m4 N rc ac Ts x W):∀ K,∀ t∈Ts,t.count<K->t.sm:=by
 intro K
 induction K with
 |zero=>intro t _ h;omega
 |succ K C=>
  intro t r hK;obtain⟨i,p,rfl⟩:=List.mem_iff_getElem.1 r;have c:=h.tc i p;have e:=h.tell i p;have f:=h.ok _ r;generalize Ts[i]=t at*;obtain⟨k,v,s,n,b⟩:=t;rw[Tm.rootT]at c;have B:n.ok:=by
   generalize rc i=F at c;cases c;assumption
  have m:=AE (l:=b) fun q j=>C _ (List.mem_of_getElem? (e.2 q j (by rw[e.1];exact j))) (by
   have:=nt (t:=.mk k v s n b) (zQ j);exact zD this (Nat.le_of_lt_succ hK))
  rw[Tm.sm];rcases al (bB f.2).1 with ⟨_,_,_,o,A⟩|⟨_,_,o,A,G⟩
  ·have:=LN.good B o;exact⟨by omega,by omega,by omega,m⟩
  ·exact⟨by omega,by omega,by omega,m⟩
theorem GR.uni {w W:World} {d g l a k o p m3 m4 N:Nat} {rc:Nat->List Value} {ac:Nat->Value} {Ts:List Tm} {j:Nat->List Nat} (h:GR w d g l a k o p m3 m4 N rc ac Ts j W) (r:Ts.length<=50000):kg 1073741825 Ts:=by
 refine⟨⟨by omega,fun t b=>⟨(h.ok t b).1,h.sm _ t b (Nat.lt_succ_self _),fun x n=>?_⟩⟩,fun t b v e=>?_⟩
 ·obtain⟨i,m,rfl⟩:=List.mem_iff_getElem.1 b;have c:=h.tell i m;obtain⟨q,f,rfl⟩:=List.mem_iff_getElem.1 n;exact List.mem_of_getElem? (c.2 q f (by rw[c.1];exact f))
 ·have:=eO (h.ok t b).2;rw[e,Tm.var,Tm.allV]at this;have:=this.1 rfl;omega
theorem uO {k v:Value}:∀ {es:List MapEntry},mK es k=some v->∃ e∈es,e.key=k
 |[],h=>by cases h
 |e::es,h=>by
  rw[mK]at h;by_cases hk:e.key=k
  ·exact⟨e,by simp,hk⟩
  ·rw[if_neg hk]at h;obtain⟨x,hx,h⟩:=uO h;exact⟨x,by simp[hx],h⟩
theorem BZ {w:World} {b n m:Nat} {f:Value->Option Value} {D:DataW Value} (h:aE bw w b n f) (q:w.ownsMap prog 3 sR b m D) {x:Int} {v:Value} (i:f (.int .i64 x)=some v):aG x:=by
 obtain⟨z,c,l,_,_,d⟩:=h;obtain⟨k,t,a,F,_⟩:=q;rw[l]at a;cases a;rw[<-d]at i;obtain⟨e,o,p⟩:=uO i;obtain⟨y,r⟩:=F.reads e o;have g:=WideElems.rd_key r;rw[p]at g;obtain⟨A,j,_,hw⟩:=Maps.keyOf_int_inv underlying3 g;cases j;exact bounds_i64 hw
theorem CM {w W:World} {o:Obj} (h:w.alloc o=W):zZ w W/\W.heap.size=w.heap.size+1/\W.heap[w.heap.size]?=some o:=by
 subst h;exact⟨ae w _,by simp,heap_alloc_new w o⟩
theorem al7 {w W:World} {d e f g i j I:Obj} (h:((((((w.alloc d).alloc e).alloc f).alloc g).alloc i).alloc j).alloc I=W):
 zZ w W/\W.heap.size=w.heap.size+1+1+1+1+1+1+1/\W.heap[w.heap.size]?=some d/\W.heap[w.heap.size+1]?=some e/\W.heap[w.heap.size+1+1]?=some f/\W.heap[w.heap.size+1+1+1]?=some g/\W.heap[w.heap.size+1+1+1+1]?=some i/\W.heap[w.heap.size+1+1+1+1+1]?=some j/\W.heap[w.heap.size+1+1+1+1+1+1]?=some I:=by
 obtain⟨V,B⟩:∃ x,w.alloc d=x:=⟨_,rfl⟩;rw[B]at h;obtain⟨X,C⟩:∃ x,V.alloc e=x:=⟨_,rfl⟩;rw[C]at h;obtain⟨Y,D⟩:∃ x,X.alloc f=x:=⟨_,rfl⟩;rw[D]at h;obtain⟨Z,E⟩:∃ x,Y.alloc g=x:=⟨_,rfl⟩;rw[E]at h;obtain⟨w5,F⟩:∃ x,Z.alloc i=x:=⟨_,rfl⟩;rw[F]at h;obtain⟨w6,G⟩:∃ x,w5.alloc j=x:=⟨_,rfl⟩;rw[G]at h;obtain⟨l,a,M⟩:=CM B;obtain⟨m,b,N⟩:=CM C;obtain⟨n,c,O⟩:=CM D;obtain⟨o,k,P⟩:=CM E;obtain⟨p,J,Q⟩:=CM F;obtain⟨q,U,S⟩:=CM G;obtain⟨r,s7,T⟩:=CM h;have A:=q.trans (r.mono q.size);have z:=p.trans (A.mono p.size);have y:=o.trans (z.mono o.size);have v:=n.trans (y.mono n.size);have t:=m.trans (v.mono m.size);have L:=l.trans (t.mono l.size);refine⟨L,by omega,?_,?_,?_,?_,?_,?_,?_⟩
 ·rw[t.block _ (by omega)];exact M
 ·rw[<-a,v.block _ (by omega)];exact N
 ·rw[<-a,<-b,y.block _ (by omega)];exact O
 ·rw[<-a,<-b,<-c,z.block _ (by omega)];exact P
 ·rw[<-a,<-b,<-c,<-k,A.block _ (by omega)];exact Q
 ·rw[<-a,<-b,<-c,<-k,<-J,r.block _ (by omega)];exact S
 ·rw[<-a,<-b,<-c,<-k,<-J,<-U];exact T
theorem eR {p q:Nat->Prop} {a b c:World} (h:ag p a b) (k:ag q b c) (g:∀ i,q i->a.heap.size<=i\/p i):ag p a c:=⟨k.os.trans h.os,k.tape.trans h.tape,k.output.trans h.output,zC h.size k.size,fun i d f=>(k.block i (zD d h.size) fun e=>(g i e).elim (fun e=>by omega) f).trans (h.block i d f)⟩
theorem zx {w:World} {b n:Nat} {k:TypeId} {D:DataW Value} (h:w.ownsMap prog k sR b n D):Maps.size D<=n:=by
 obtain⟨d,a,_,_,c,rfl⟩:=h;simpa[Maps.size,length_sorted] using c
def vO (f:Int->Tm) (v:Int) (T:Tm):Prop:=((f v).count<=10000->T=f v)/\(10000<(f v).count->10000<T.count)
def AV (bb:Int->Option Tm) (f:Int->Tm) (left:Lit->Bool) (gs:List (Int×Tm)):Prop:=
 eC gs/\∀ v,(fnd gs v=none/\(bb v≠none->left (.int .i64 v)=true))\/∃ T,fnd gs v=some T/\bb v≠none/\left (.int .i64 v)=false/\vO f v T
theorem AV.nil {a:Int->Option Tm} {f:Int->Tm} {left:Lit->Bool} (h:∀ v,a v≠none->left (.int .i64 v)=true):AV a f left []:=⟨fun i j b=>absurd b (by simp),fun v=>.inl ⟨rfl,h v⟩⟩
theorem AV.add {a:Int->Option Tm} {f:Int->Tm} {left:Lit->Bool} {b:List (Int×Tm)} (h:AV a f left b) {x:Int} (n:left (.int .i64 x)=true) (c:a x≠none) {T:Tm} (m:vO f x T):AV a f (fun z=>left z&&!z.sameKey (.int .i64 x)) (bV (x,T) b):=by
 have d:fnd b x=none:=by
  rcases h.2 x with h|⟨_,_,_,h,_⟩
  ·exact h.1
  ·rw[n]at h;cases h
 refine⟨h.1.ins d T,fun v=>?_⟩;rw[pm d];by_cases e:v=x
 ·subst e;exact .inr ⟨T,by rw[if_pos rfl],c,by simp[Lit.sameKey],m⟩
 ·rw[if_neg e];have o:(Lit.int .i64 v).sameKey (.int .i64 x)=false:=by simp[Lit.sameKey,e]
  rcases h.2 v with h|⟨g,i,j,k,l⟩
  ·exact .inl ⟨h.1,fun c=>by dsimp only;rw[h.2 c,o];rfl⟩
  ·exact .inr ⟨g,i,j,by dsimp only;rw[k];rfl,l⟩
def Cy (a b:Tm) (ok:Bool) (bs:List (Int×Tm)):Prop:=
 (ok=false/\bs=[]/\∀ s:Int->Tm,a.sb s≠b.sb s)\/(ok=true/\bs.length<=50000/\∃ f,xV a b f/\eC bs/\∀ v,(fnd bs v=none/\f v=.var v)\/∃ T,fnd bs v=some T/\f v≠.var v/\vO f v T/\(f v).err0=0)
def UNP (a b:Tm) (W:World) (e:Ending) (W':World):Prop:=∃ lv ok bs,e=.returned (.tuple #[lv,.bool ok])/\Cy a b ok bs/\BL W' lv bs/\zZ W W'
theorem pR {w:World} {a b:Tm} {ca cb:List Value} (ha:TC w a ca) (hb:TC w b cb) (ea:a.check=0) (eb:b.check=0) (W:World) (hW:zZ w W):
 Calls prog 43 #[.agg ca.toArray,.agg cb.toArray] W fun e W'=>UNP a b W e W':=by
 obtain⟨x8,l6⟩:=aQ ea;obtain⟨x9,l7⟩:=aQ eb;have HA:=zH (ha.to hW);have HB:=zH (hb.to hW);have b4:Yd (a.err0=0/\a.fine/\a.count<=10000):=⟨l6,ha.fine l6,x8⟩;have e0:Yd (b.err0=0/\b.fine/\b.count<=10000):=⟨l7,hb.fine l7,x9⟩;obtain⟨k1,v1,E,B,A1,n1,c1,B1,b1,d1,X1,l1,e1,F2⟩:=ha.form;obtain⟨k2,v2,F,C,A2,n2,c2,B2,b2,d2,X2,l2,e2,f7⟩:=hb.form;subst F2 f7;clear ha hb ea eb hW x8 l6 x9 l7;have F7:=@run_makeMap prog;go_enter func43,ntmps43
 go_upto_region 2 with fail
 generalize hy:World.alloc _ _=P;obtain⟨n6,G0,h1,h2,h3,h4,h5,h6,h7⟩:=al7 hy;generalize hd:W.heap.size+1+1+1+1+1+1=d at*;generalize F6:W.heap.size+1+1+1+1+1=m4 at*;generalize g1:W.heap.size+1+1+1+1=m3 at*;generalize g0:W.heap.size+1+1+1=n at*;generalize f8:W.heap.size+1+1=m1 at*;generalize F8:W.heap.size+1=U at*;have a2:Yd (W.heap.size<U/\U<m1/\m1<n/\n<m3/\m3<m4/\m4<d/\d<P.heap.size):=⟨by omega,by omega,by omega,by omega,by omega,by omega,by omega⟩;have d6:Yd (ah (P.drew) W.heap.size 27 (zX k1 v1 E B A1 n1 c1 B1 b1 d1 X1 l1 e1).toArray/\ah (P.drew) U 27 (zX k2 v2 F C A2 n2 c2 B2 b2 d2 X2 l2 e2).toArray/\(P.drew).heap[n]?=some (.map #[] 0)/\(P.drew).heap[m3]?=some (.map #[] 0)/\(P.drew).heap[m4]?=some (.map #[] 0)/\zZ W (P.drew)):=⟨h1,h2,h4,h5,h6,n6.drew⟩;have x3:Yd (SD W (fun _=>False) W.heap.size d none none m1 n m3 m4 [] (fun _=>[]) P.drew):=(SD.drew { ex:=⟨.slice none 0 0,.slice none 0 0,fun _=>[],fun _=>.slice none 0 0,h7,rfl,rfl,World.ownsRow_nil _ _ _ _,World.ownsRow_nil _ _ _ _,fun i h=>absurd h (by simp),fun i h=>absurd h (by simp)⟩,tell:=fun i h=>absurd h (by simp),ok:=fun t h=>(by cases h),ids:=⟨fun _=>none,.empty h3,fun i h=>absurd h (by simp),fun k x h=>(by cases h)⟩,be:=n6,le:=⟨zN _,by omega,by omega,by omega⟩ });clear hy n6 G0 h1 h2 h3 h4 h5 h6 h7 hd F6 g1 g0 f8 F8 F7;have i0:Yd (∀ (rb ab:Option Nat) (x y:World),(∀ k,rb=some k->P.heap.size<=k)->(∀ k,ab=some k->P.heap.size<=k)->(ah (x) W.heap.size 27 (zX k1 v1 E B A1 n1 c1 B1 b1 d1 X1 l1 e1).toArray/\ah (x) U 27 (zX k2 v2 F C A2 n2 c2 B2 b2 d2 X2 l2 e2).toArray/\(x).heap[n]?=some (.map #[] 0)/\(x).heap[m3]?=some (.map #[] 0)/\(x).heap[m4]?=some (.map #[] 0)/\zZ W (x))->ag (SQ d rb ab m1) x y->(ah (y) W.heap.size 27 (zX k1 v1 E B A1 n1 c1 B1 b1 d1 X1 l1 e1).toArray/\ah (y) U 27 (zX k2 v2 F C A2 n2 c2 B2 b2 d2 X2 l2 e2).toArray/\(y).heap[n]?=some (.map #[] 0)/\(y).heap[m3]?=some (.map #[] 0)/\(y).heap[m4]?=some (.map #[] 0)/\zZ W (y))):=fun rb ab x y hr y7 hx o=>by
  obtain⟨Y,q2,q3,V,X,q6⟩:=hx;obtain⟨j1,j2,j3,j4,j5,j6,j7⟩:=a2.o;have hn:∀ k,k<d->k≠m1->¬SQ d rb ab m1 k:=fun k h1 h2 h=>by
   rcases h with h|h|h|h
   ·omega
   ·have:=hr k h.symm;omega
   ·have:=y7 k h.symm;omega
   ·exact h2 h
  exact⟨o.blk Y (hn _ (by omega) (by omega)),o.blk q2 (hn _ (by omega) (by omega)),(o.block _ (an q3) (hn _ (by omega) (by omega))).trans q3,(o.block _ (an V) (hn _ (by omega) (by omega))).trans V,(o.block _ (an X) (hn _ (by omega) (by omega))).trans X,q6.trans (o.below q6.size fun k h=>by
   rcases h with h|h|h|h
   ·omega
   ·have:=hr k h.symm;omega
   ·have:=y7 k h.symm;omega
   ·omega)⟩
 have w8:Yd (Calls prog 68 #[zY d,.agg (zX k1 v1 E B A1 n1 c1 B1 b1 d1 X1 l1 e1).toArray] P.drew fun e I=>∃ i:Nat,e=.returned (.int .i64 (i:Int))/\Yd (∃ Us Is rb ab,Us[i]?=some a/\Us.length<=a.count/\SD W (fun _=>False) W.heap.size d rb ab m1 n m3 m4 Us Is I/\(∀ k,rb=some k->P.heap.size<=k)/\(∀ k,ab=some k->P.heap.size<=k)/\(ah (I) W.heap.size 27 (zX k1 v1 E B A1 n1 c1 B1 b1 d1 X1 l1 e1).toArray/\ah (I) U 27 (zX k2 v2 F C A2 n2 c2 B2 b2 d2 X2 l2 e2).toArray/\(I).heap[n]?=some (.map #[] 0)/\(I).heap[m3]?=some (.map #[] 0)/\(I).heap[m4]?=some (.map #[] 0)/\zZ W (I))/\P.heap.size<=(I).heap.size)/\R7 I W.heap.size (.int .i64 k1) (.int .i64 v1) (.string E) (.bool B) (.slice A1 n1 c1) (.slice B1 b1 d1) (.slice X1 l1 e1)/\R7 I U (.int .i64 k2) (.int .i64 v2) (.string F) (.bool C) (.slice A2 n2 c2) (.slice B2 b2 d2) (.slice X2 l2 e2)):=by
  refine (og HA.o b4.o.1 b4.o.2.1 (fun _=>False) W.heap.size d m1 n m3 m4 none none [] (fun _=>[]) P.drew x3.o (fun _ h=>h.elim) (by have:=b4.o.2.2;simp;omega)).mono ?_;rintro e I ⟨i,Us,Is,rb,ab,rfl,Y,q2,q3,V,X,q6,q7⟩;have hB:=i0.o none none _ _ (fun k h=>by cases h) (fun k h=>by cases h) d6.o q7;have hr:∀ r:Option Nat,Nx none r P.drew.heap.size->∀ k,r=some k->P.heap.size<=k:=fun r h k e=>by
   rcases h with h|⟨k',h,o⟩
   ·rw[h]at e;cases e
   ·rw[h]at e;cases e;exact o
  exact⟨i,rfl,⟨Us,Is,rb,ab,Y,q2,V,hr _ X,hr _ q6,hB,q7.size⟩,hB.1.r7,hB.2.1.r7⟩
 have w9:Yd (∀ (i:Nat) (I:World),Yd (∃ Us Is rb ab,Us[i]?=some a/\Us.length<=a.count/\SD W (fun _=>False) W.heap.size d rb ab m1 n m3 m4 Us Is I/\(∀ k,rb=some k->P.heap.size<=k)/\(∀ k,ab=some k->P.heap.size<=k)/\(ah (I) W.heap.size 27 (zX k1 v1 E B A1 n1 c1 B1 b1 d1 X1 l1 e1).toArray/\ah (I) U 27 (zX k2 v2 F C A2 n2 c2 B2 b2 d2 X2 l2 e2).toArray/\(I).heap[n]?=some (.map #[] 0)/\(I).heap[m3]?=some (.map #[] 0)/\(I).heap[m4]?=some (.map #[] 0)/\zZ W (I))/\P.heap.size<=(I).heap.size)->Calls prog 68 #[zY d,.agg (zX k2 v2 F C A2 n2 c2 B2 b2 d2 X2 l2 e2).toArray] I fun e A=>∃ j:Nat,e=.returned (.int .i64 (j:Int))/\Yd (∃ g cr ga ca rc ac m Is,GR W d g cr ga ca m1 n m3 m4 m.length rc ac m Is A/\m[i]?=some a/\m[j]?=some b/\m.length<=20000/\jD n 0 m (fun _=>none) A/\aE bw A m3 0 (fun _=>none)/\aE bw A m4 0 (fun _=>none)/\(ah (A) W.heap.size 27 (zX k1 v1 E B A1 n1 c1 B1 b1 d1 X1 l1 e1).toArray/\ah (A) U 27 (zX k2 v2 F C A2 n2 c2 B2 b2 d2 X2 l2 e2).toArray/\(A).heap[n]?=some (.map #[] 0)/\(A).heap[m3]?=some (.map #[] 0)/\(A).heap[m4]?=some (.map #[] 0)/\zZ W (A)))/\R7 A W.heap.size (.int .i64 k1) (.int .i64 v1) (.string E) (.bool B) (.slice A1 n1 c1) (.slice B1 b1 d1) (.slice X1 l1 e1)/\R7 A U (.int .i64 k2) (.int .i64 v2) (.string F) (.bool C) (.slice A2 n2 c2) (.slice B2 b2 d2) (.slice X2 l2 e2)):=fun i I hN=>by
  obtain⟨Us,Is,rb,ab,Y,q2,q3,V,X,q6,q7⟩:=hN.out;refine (og HB.o e0.o.1 e0.o.2.1 (fun _=>False) W.heap.size d m1 n m3 m4 rb ab Us Is I q3 (fun _ h=>h.elim) (by have:=b4.o.2.2;have:=e0.o.2.2;omega)).mono ?_;rintro e A ⟨j,Vs,E1,G7,G5,rfl,r1,r2,r3,r4,r5,r6,r7⟩;have hB:=i0.o rb ab _ _ V X q6 r7;have hl:(Us++Vs).length<=20000:=by have:=b4.o.2.2;have:=e0.o.2.2;rw[zE];omega
  have hi:(Us++Vs)[i]?=some a:=by rw[List.getElem?_append_left (zK Y).1];exact Y
  obtain⟨g,cr,ga,ca,rc,ac,hG⟩:=r4.graph (by have:=(zK hi).1;omega);refine⟨j,rfl,⟨g,cr,ga,ca,rc,ac,Us++Vs,E1,hG,hi,r1,hl,⟨fun _=>none,⟨.empty hB.2.2.1,⟨.map [],⟨#[],0,hB.2.2.1,⟨by simp,MapKept.stamped_empty 0,by simp⟩,zN _,rfl⟩⟩,[],List.nodup_nil,rfl,fun v h=>(by cases h),fun v h=>(by cases h)⟩,fun _ _=>rfl,fun v t h=>by cases h⟩,.empty hB.2.2.2.1,.empty hB.2.2.2.2.1,hB⟩,hB.1.r7,hB.2.1.r7⟩
 obtain⟨ub,o9⟩:∃ ub,qc a b=ub:=⟨_,rfl⟩;have x7:Yd ((ub=false->∀ s:Int->Tm,a.sb s≠b.sb s)/\(ub=true->∃ s:Int->Tm,a.sb s=b.sb s)):=by
  rw[<-o9];unfold qc;exact⟨fun h=>by simpa using h,fun h=>by simpa using h⟩
 have r8:Yd (∀ (i j:Nat) (A:World),Yd (∃ g cr ga ca rc ac m Is,GR W d g cr ga ca m1 n m3 m4 m.length rc ac m Is A/\m[i]?=some a/\m[j]?=some b/\m.length<=20000/\jD n 0 m (fun _=>none) A/\aE bw A m3 0 (fun _=>none)/\aE bw A m4 0 (fun _=>none)/\(ah (A) W.heap.size 27 (zX k1 v1 E B A1 n1 c1 B1 b1 d1 X1 l1 e1).toArray/\ah (A) U 27 (zX k2 v2 F C A2 n2 c2 B2 b2 d2 X2 l2 e2).toArray/\(A).heap[n]?=some (.map #[] 0)/\(A).heap[m3]?=some (.map #[] 0)/\(A).heap[m4]?=some (.map #[] 0)/\zZ W (A)))->Calls prog 67 #[zY d,.int .i64 (i:Int),.int .i64 (j:Int)] A fun e w4=>e=.returned (.bool ub)/\Yd (zZ W w4/\(ub=false->∀ s:Int->Tm,a.sb s≠b.sb s)/\(ub=true->∃ g cr ga ca rc ac m Is J nb f,GR W d g cr ga ca m1 n m3 m4 m.length rc ac m Is w4/\m.length<=20000/\jD n nb m J w4/\kX m J/\xY J (a,b)/\iY J f/\aE bw w4 m3 0 (fun _=>none)/\aE bw w4 m4 0 (fun _=>none)))/\R7 w4 W.heap.size (.int .i64 k1) (.int .i64 v1) (.string E) (.bool B) (.slice A1 n1 c1) (.slice B1 b1 d1) (.slice X1 l1 e1)/\R7 w4 U (.int .i64 k2) (.int .i64 v2) (.string F) (.bool C) (.slice A2 n2 c2) (.slice B2 b2 d2) (.slice X2 l2 e2)):=fun i j A hN=>by
  obtain⟨g,cr,ga,ca,rc,ac,m,Is,Y,q2,q3,V,X,q6,q7,q8⟩:=hN.out;obtain⟨j1,j2,j3,j4,j5,j6,j7⟩:=a2.o;refine (uo Y X (Y.uni (by omega)) (by omega) (by omega) q2 q3).mono ?_;rintro e w4 ⟨rfl,r1,r2⟩;have hB:=q8.1.r7;refine⟨by rw[o9],⟨q8.2.2.2.2.2.trans (r1.below q8.2.2.2.2.2.size fun k e=>by have e:k=n:=e;omega),x7.o.1,fun h=>?_⟩,(r1.blk q8.1 fun e=>by have e:W.heap.size=n:=e;omega).r7,(r1.blk q8.2.1 fun e=>by have e:U=n:=e;omega).r7⟩;obtain⟨J,nb,Mt,s1,s2,s3,s4⟩:=r2 (x7.o.2 h);have hi:=s4.inv;obtain⟨f,hf⟩:=hi.acy.res;exact⟨g,cr,ga,ca,rc,ac,m,Is,J,nb,f,s1,V,s2,s3,hi.sol,hf,q6.kept r1 fun e=>by have e:m3=n:=e;omega,q7.kept r1 fun e=>by have e:m4=n:=e;omega⟩
 have E5:=zW d6.o.1.r7 d6.o.2.1.r7;clear o9 i0 x3 d6;go_wp2_with fail
 go_region_held3 (fun w'=>R7 w' W.heap.size (.int .i64 k1) (.int .i64 v1) (.string E) (.bool B) (.slice A1 n1 c1) (.slice B1 b1 d1) (.slice X1 l1 e1)/\R7 w' U (.int .i64 k2) (.int .i64 v2) (.string F) (.bool C) (.slice A2 n2 c2) (.slice B2 b2 d2) (.slice X2 l2 e2))
  (with_reducible assumption)
  (first
   |(go_at_call 68;(with_reducible refine w8.o.mono ?_);rintro e y2 ⟨i,rfl,HI,E6⟩)
   |(go_at_call 68;(with_reducible refine (w9.o _ _ HI).mono ?_);rintro e y3 ⟨j,rfl,HJ,E7⟩)
   |(go_at_call 67;(with_reducible refine (r8.o _ _ _ HJ).mono ?_);rintro e l ⟨rfl,HQ,E8⟩))
 clear E5 E6 E7 E8 w8 w9 r8 HI HJ;cases ub with
 |false=>
  go_wp2_with fail;refine bodyPost_ret (v:=.tuple #[.slice none 0 0,.bool false]) (by rw[results_tmp2 rfl];rfl) rfl ?_;exact⟨_,false,[],rfl,.inl ⟨rfl,rfl,HQ.o.2.1 (by trivial)⟩,⟨none,0,fun _=>[],rfl,zN _,by unfold maxLen;omega,fun h=>absurd h (by simp),fun i h=>absurd h (by simp)⟩,HQ.o.1⟩
 |true=>
  obtain⟨g,cr,ga,ca,rc,ac,m,Is,J,nb,f,hG,y6,m7,e5,n0,m8,y1,y5⟩:=HQ.o.2.2 (by trivial);have d7:Yd (zZ W l):=HQ.o.1;have HU:=zH (hG.uni (by omega));have E4:=m7;obtain⟨f0,⟨e6,⟨D,c6⟩,m5⟩,f7,a7⟩:=E4;have w6:=zH e6;have k5:=zH c6;have D2:=zH f7;have t7:=zH a7;have B4:nb<=m.length:=kG.le ⟨e6,⟨D,c6⟩,m5⟩;have x0:Yd (nb<=20000):=zC B4 y6;have d3:=hG.dk.cell 3;simp only[L3]at d3;have HG:=zH hG;have x2:=zH m7;have v6:=zH e5;have x5:=zH n0;have M:=zH m8;have i4:=zH y1;have j0:=zH y5;have D1:Yd (∀ v,J v≠none->(f v).err0=0):=by
   obtain⟨L,_,_,E2,E3⟩:=m5;have hD:∀ v t,J v=some t->0<=v/\v<=1073741824:=fun v t hv=>by
    obtain⟨k,_,_,o⟩:=a7 v t hv;have h1:=(E2 v (E3 v (by rw[o];rfl))).1;have h2:=eO (hG.ok _ h1).2;rw[Tm.var,Tm.allV]at h2;exact h2.1 rfl
   have C2:=rW (D:=fun v=>0<=v/\v<=1073741824) m8 n0.1 (fun v t hv=>⟨hD v t hv,fun j hj=>jc t (eO (hG.ok t (e5 v t hv).1).2) j hj⟩) (fun v h=>go h.1 h.2) fun v t hv=>(hG.ok t (e5 v t hv).1).2;intro v hv;cases hbv:J v with
   |none=>exact absurd hbv hv
   |some t=>exact C2 v (hD v t hbv)
  have IntOk:Yd (∀ v t,J v=some t->aG v):=fun v t hv=>by
   obtain⟨k,_,_,o⟩:=a7 v t hv;exact BZ e6 c6 o
  clear hG y6 e5 n0 m8 y1 y5 e6 m5 f7 a7 B4 m7 HQ
  go_wp2_with (first
   |(at_range;refine wpList_range_own _ rfl _ 67 rfl 3 3 (Maps.int_keyed underlying3) underlying67 sR n nb _ rfl c6 ?_;intro w0 B5 a8 F9)
   |go_in)
  have e7:zZ l w0:=⟨a8.os,a8.tape,a8.output,a8.size,fun i hi=>a8.block i hi (by simp)⟩;have v7:Yd (BL (w0) ((.slice none 0 0)) (([]:List (Int×Tm)))/\AV J f ((Maps.has D)) (([]:List (Int×Tm)))/\(([]:List (Int×Tm))).length+((Maps.size D))<=nb/\ag (fun k=>k=m3\/k=m4) l (w0)/\(∃ S g3,aE bw (w0) m3 S g3/\vM m f g3)/\(∃ n4 g4,aE bw (w0) m4 n4 g4/\qw m f (fun k=>k≠l.heap.size) (w0) g4)/\l.heap.size<(w0).heap.size):=by
   refine⟨⟨none,0,fun _=>[],rfl,zN _,by unfold maxLen;omega,fun h=>absurd h (by simp),fun i h=>absurd h (by simp)⟩,.nil fun v hv=>?_,?_,.of_below e7,⟨0,fun _=>none,i4.o.kept (p:=fun _=>False) (.of_below e7) fun h=>h,fun j y _=>.inl rfl⟩,⟨0,fun _=>none,j0.o.kept (p:=fun _=>False) (.of_below e7) fun h=>h,fun j y _=>.inl rfl⟩,by omega⟩
   ·cases hbv:J v with
    |none=>exact absurd hbv hv
    |some t=>
     obtain⟨k,_,_,o⟩:=t7.o v t hbv;rw[(rG w6.o k5.o (IntOk.o v t hbv)).1,o];rfl
   ·have:=zx k5.o;simpa using this
  clear c6 a8 F9 e7 d3;try go_frame
  go_loopw [7] (fun v wr=>∃ (left:Lit->Bool) (l5:Nat) (gs:List (Int×Tm)),wr.ranges prog 3 sR n l.heap.size nb D left l5/\Yd (BL (wr) (v) (gs)/\AV J f (left) (gs)/\(gs).length+(l5)<=nb/\ag (fun k=>k=m3\/k=m4) l (wr)/\(∃ S g3,aE bw (wr) m3 S g3/\vM m f g3)/\(∃ n4 g4,aE bw (wr) m4 n4 g4/\qw m f (fun k=>k≠l.heap.size) (wr) g4)/\l.heap.size<(wr).heap.size))
   (fun _ wr=>wr.rangeLeft n l.heap.size)
  case atStart=>exact⟨_,_,[],B5,v7.o⟩
  case round=>
   clear v7 B5;obtain⟨left,l5,gs,a9,HJ⟩:=hrel;have D6:=zH a9.left_eq;have G4:=zH a9.ne;have D8:=zH a9
   go_wp2_with (first
    |(at_next;refine wpList_next_ranges _ rfl _ rfl 3 (Maps.int_keyed underlying3) sR (Value.int .i64) id (fun C2 kl h=>(by obtain⟨x,e,_⟩:=Maps.keyOf_int_inv underlying3 h;exact⟨x,e⟩)) (fun v y _=>⟨v,rfl⟩) n l.heap.size nb _ _ _ rfl a9 ?_ ?_)
    |go_in)
   ·intro F0 A6;have D3:Yd (Cy a b true gs/\BL wr u7 gs/\zZ W wr):=by
     obtain⟨Y,q2,q3,V,X,q6,q7⟩:=HJ.o;obtain⟨j1,j2,j3,j4,j5,j6,j7⟩:=a2.o;refine⟨.inr ⟨rfl,by have:=x0.o;omega,f,⟨J,x5.o,M.o⟩,q2.1,fun v=>?_⟩,Y,d7.o.trans (V.below d7.o.size fun k h=>by rcases h with h|h<;>omega)⟩;rcases q2.2 v with ⟨h1,h2⟩|⟨T,h1,h2,_,h4⟩
     ·refine .inl ⟨h1,M.o.1 v ?_⟩;cases hbv:J v with
      |none=>rfl
      |some t=>have:=h2 (by rw[hbv];simp);rw[A6]at this;cases this
     ·exact .inr ⟨T,h1,fun e=>h2 ((M.o.ne x5.o.1 v).2 e),h4,D1.o v h2⟩
    clear a9 F0 A6;go_wp2_with fail;refine bodyPost_ret (v:=.tuple #[u7,.bool true]) (by rw[results_tmp2 rfl];rfl) rfl ?_;exact⟨u7,true,gs,rfl,D3.o⟩
   ·intro x c kl ya yp z1 N A4 B0 hR y8 B6 n9 z8 G1 F1;obtain⟨x',G2,F5,C1⟩:=Maps.keyOf_int_inv underlying3 A4;cases G2;subst F5;have hy:ya=.held c:=by
     have:=zI hR;simp only[Prod.mk.injEq]at this;exact this.1.symm
    subst hy;have p0:aG x:=bounds_i64 C1;have c4:=(rG w6.o k5.o p0).2 c y8;have E9:∃ t k,J x=some t/\k<m.length/\m[k]?=some t/\c=.int .i64 ((k:Nat):Int):=by
     cases hbv:J x with
     |none=>rw[D2.o x hbv]at c4;cases c4
     |some t=>
      obtain⟨k,h1,h2,h3⟩:=t7.o x t hbv;rw[h3]at c4;exact⟨t,k,rfl,h1,h2,(zI c4).symm⟩
    obtain⟨t,k0,n7,z9,A5,hc⟩:=E9;subst hc;have i1:Yd (J x=some t/\k0<m.length/\m[k0]?=some t/\t.sb f=f x):=⟨n7,z9,A5,(M.o.2.1 x t n7).symm⟩;have i3:Yd (ag (fun k=>k=l.heap.size) wr z1):=(ag.grown z8).mono fun k h=>by simpa using h
    have t9:Yd (NC wr fun k=>k=l.heap.size):=fun k h i=>by
     have h:k=l.heap.size:=h;rw[h];exact rT D8.o i
    have HX:=zH p0;have D5:=zH B0;have v9:=zH n9;have e4:=zH B6;clear A4 C1 hR y8 p0 B0 n9 B6 z8 G1 c4 n7 z9 A5 a9;have v5:=zH (wJ z1);go_wp2_with fail;refine v5.o.mono ?_;rintro e z2 ⟨cx,rfl,v4⟩;clear v5;obtain⟨tl,o8,A7,c0⟩:=v4.o;obtain⟨k3,v3,a5,a4,A3,S,c3,B3,b3,d3,X3,l3,e3,a7⟩:=o8.form;subst a7
    go_upto_region 9 with fail
    generalize hy:World.alloc _ _=z3;obtain⟨a3,o6⟩:=qo hy;have A9:wr.heap.size<=z2.heap.size:=zC i3.o.size c0.size;generalize o7:z2.heap.size=G at*;have x6:Yd (TC z3 tl (zX k3 v3 a5 a4 A3 S c3 B3 b3 d3 X3 l3 e3)/\10000<tl.count/\ah z3 G 27 (zX k3 v3 a5 a4 A3 S c3 B3 b3 d3 X3 l3 e3).toArray/\wr.heap.size<=G/\G<z3.heap.size):=⟨o8.to (by first|exact a3|(rw[o7];exact a3)),A7,o6,A9,o6.lt⟩;have b5:Yd (ag (fun k=>k=l.heap.size) wr z3):=eR (eR i3.o (.of_below (p:=fun _=>False) c0) fun i h=>h.elim) (.of_below (p:=fun _=>False) (by first|exact a3|(rw[o7];exact a3))) fun i h=>h.elim;have k6:Yd (z3.ranges prog 3 sR n l.heap.size nb D (fun z=>left z&&!z.sameKey (.int .i64 x)) N):=by
     have y9:zZ z1 z3:=c0.trans (Below.mono (by first|exact a3|(rw[o7];exact a3)) c0.size);exact ij e4.o (y9.block _ e4.o.owns.lt) (y9.block _ e4.o.lt)
    have w7:Yd (∀ k,k=m3\/k=m4->W.heap.size<=k/\(k<l.heap.size->∃ es c,l.heap[k]?=some (Obj.map es c))):=fun k e=>by
     obtain⟨j1,j2,j3,j4,j5,j6,j7⟩:=a2.o;rcases e with rfl|rfl
     ·obtain⟨es,c,h,_⟩:=i4.o.is;exact⟨by omega,fun _=>⟨es,c,h⟩⟩
     ·obtain⟨es,c,h,_⟩:=j0.o.is;exact⟨by omega,fun _=>⟨es,c,h⟩⟩
    have k4:Yd (m3<l.heap.size/\m4<l.heap.size/\l.heap.size<wr.heap.size):=⟨i4.o.lt,j0.o.lt,HJ.o.2.2.2.2.2.2⟩;have k7:Yd (Calls prog 70 #[zY d,.int .i64 (k0:Int)] z3 fun e z=>e=.returned (.int .i64 (sG (f x).count:Int))/\Yd (ag (fun k=>k=m3) z3 z/\∃ q9 b7,aE bw z m3 q9 b7/\vM m f b7)):=by
     obtain⟨Y,q2,q3,V,⟨c9,a6,X,b0⟩,q6,q7⟩:=HJ.o;obtain⟨j1,j2,j3,j4,j5,j6,j7⟩:=a2.o;obtain⟨r1,r2,r3,r4⟩:=i1.o;have hm:=k4.o;have A0:=eR V b5.o fun i h=>.inl (Nat.le_of_eq h.symm);have:=Ch (m3:=m3) v6.o (fun t ht v e=>(HU.o.2 t ht v e).1) M.o ⟨by omega,by omega⟩ _ k0 t r2 r3 (Nat.lt_succ_self _) z3 c9 a6 (HG.o.keep A0 w7.o) (x2.o.keep A0 fun e=>by omega) (X.kept b5.o fun e=>by have e:m3=l.heap.size:=e;omega) b0;rw[r4]at this;exact this
    clear hy a3 o6 A9 o8 A7 c0 v4 F1 i3 e4;obtain⟨sz,o5⟩:∃ sz,sG (f x).count=sz:=⟨_,rfl⟩;have x4:Yd (((sz:Int)<=10000->(f x).count<=10000)/\(10000<(sz:Int)->10000<(f x).count)):=by
     rw[<-o5];unfold sG;exact⟨fun h=>by omega,fun h=>by omega⟩
    rw[o5]at k7;clear o5;go_wp2_with fail;refine k7.o.mono ?_;rintro e z4 ⟨rfl,E0⟩;clear k7
    go_upto_if 40 with fail
    go_cut [] (fun wx=>∃ (T:Tm) (k8 v8:Int) (d5:ByteArray) (d0:Bool) (A8:Option Addr) (n8 c8:Nat) (B8:Option Addr) (b8 d8:Nat) (X8:Option Addr) (l8 e8:Nat) (z6:World),z6=wx/\Yd (ah z6 G 27 (zX k8 v8 d5 d0 A8 n8 c8 B8 b8 d8 X8 l8 e8).toArray/\TC z6 T (zX k8 v8 d5 d0 A8 n8 c8 B8 b8 d8 X8 l8 e8)/\vO f x T/\ag (fun k=>k=m3\/k=m4\/k=G) z3 z6/\(∃ S g3,aE bw z6 m3 S g3/\vM m f g3)/\∃ n4 g4,aE bw z6 m4 n4 g4/\qw m f (fun k=>k≠l.heap.size) z6 g4))
    case first=>
     obtain⟨a1,c9,a6,g2,g6⟩:=E0.o;obtain⟨j1,j2,j3,j4,j5,j6,j7⟩:=a2.o;obtain⟨f8,g0,g1⟩:=k4.o;obtain⟨u1,u2,u3,u4,u5⟩:=x6.o;obtain⟨Y,q2,q3,V,⟨D0,y0,X,b0⟩,⟨h0,b6,q6,d4⟩,q7⟩:=HJ.o;have q0:aE bw z3 m3 D0 y0:=X.kept b5.o fun e=>by have e:m3=l.heap.size:=e;omega
     have o0:NC z3 fun k=>k=m3:=fun k e i=>by
      have e:k=m3:=e;obtain⟨es,c,h,_⟩:=q0.is;rw[e];exact fO h i
     have O:NC wr fun k=>k=l.heap.size\/k=m3:=fun k e i=>by
      rcases e with e|e
      ·exact t9.o k e i
      ·obtain⟨es,c,h,_⟩:=X.is;rw[e];exact fO h i
     have c7:=b5.o.trans2 a1;have e9:=a1.blk u3 fun e=>by have e:G=m3:=e;omega
     have B7:=a1.size;have g9:aE bw z4 m4 h0 b6:=q6.kept c7 fun e=>by rcases e with e|e<;>omega
     have h8:qw m f (fun k=>k≠l.heap.size/\k≠G) z4 b6:=d4.map fun h=>(h.mono (q:=fun k=>k≠l.heap.size/\k≠G) fun b hb n9=>⟨hb,by omega⟩).overN c7 O;have g7:=(eR V c7 fun i h=>h.elim (fun e=>.inl (Nat.le_of_eq e.symm)) fun e=>.inr (.inl e));by_cases hc:(sz:Int)<=10000
     ·have i2:=zH (x4.o.1 hc);have D9:Yd (Calls prog 71 #[zY d,.int .i64 (k0:Int)] z4 fun e z=>∃ cx:List Value,e=.returned (.agg cx.toArray)/\Yd (bF (fun k=>(k≠l.heap.size/\k≠G)\/z4.heap.size<=k) z (f x) cx/\ag (fun k=>k=m4) z4 z/\∃ q9 b7,aE bw z m4 q9 b7/\qw m f (fun k=>(k≠l.heap.size/\k≠G)\/z4.heap.size<=k) z b7)):=by
       obtain⟨r1,r2,r3,r4⟩:=i1.o;have:=xi (m4:=m4) v6.o (fun t ht v e=>(HU.o.2 t ht v e).1) M.o ⟨by omega,by omega⟩ _ k0 t r2 r3 (Nat.lt_succ_self _) z4 h0 b6 (fun k=>k≠l.heap.size/\k≠G) (fun k o=>⟨by have:=d7.o.size;omega,by have:=d7.o.size;omega⟩) (HG.o.keep g7 w7.o) (x2.o.keep g7 fun e=>by omega) g9 h8;rw[r4]at this;exact this
      have l0:Yd (ag (fun k=>k=m3) z3 z4/\aE bw z4 m3 c9 a6/\vM m f a6/\ah z4 G 27 (zX k3 v3 a5 a4 A3 S c3 B3 b3 d3 X3 l3 e3).toArray/\G<z4.heap.size/\m3<l.heap.size/\m4<l.heap.size/\l.heap.size<G/\m3≠m4):=⟨a1,g2,g6,e9,by omega,by omega,by omega,by omega,by omega⟩;clear a1 g2 g6 j1 j2 j3 j4 j5 j6 j7 f8 g0 g1 u1 u2 u3 u4 u5 Y q2 q3 V X b0 q6 d4 q7 q0 o0 O c7 e9 B7 g9 h8 g7;go_wp2_with fail;refine D9.o.mono ?_;rintro e z5 ⟨cx,rfl,l4⟩;obtain⟨k8,v8,d5,d0,A8,n8,c8,B8,b8,d8,X8,l8,e8,F3⟩:=l4.o.1.form;subst F3;have h9:Yd (ah z5 G 27 (zX k3 v3 a5 a4 A3 S c3 B3 b3 d3 X3 l3 e3).toArray):=l4.o.2.1.blk l0.o.2.2.2.1 fun e=>by have e:G=m4:=e;have:=l0.o;omega
      obtain⟨r0,r1,r2,r3,r4,r5,r6⟩:=h9.o.r7;obtain⟨f0,f1,f2,f3,f4,f5,f6⟩:=h9.o.f7;go_wp2_with fail
      go_meet
      case rel=>
       refine⟨f x,k8,v8,d5,d0,A8,n8,c8,B8,b8,d8,X8,l8,e8,_,rfl,?_⟩;generalize hz:World.setCell _ _ _=z6;obtain⟨G3,c5⟩:=uk hz h9.o;obtain⟨U,p2,p3,p4,p5,p6,p7,p8,p9⟩:=l0.o;obtain⟨o1,o2,n5,g5,o3,o4⟩:=l4.o;have G6:=o2.size;have F4:ag (fun k=>k=m3\/k=m4\/k=G) z3 z6:=((U.mono fun k h=>.inl h).trans (o2.mono fun k h=>.inr (.inl h))).trans (c5.mono fun k h=>.inr (.inr h));refine⟨G3,(o1.over (Q:=fun _=>True) c5 (fun k o _ e=>?_) fun _ _ _=>trivial).tc,⟨fun _=>rfl,fun h=>by have:=i2.o;omega⟩,F4,⟨c9,a6,(p2.kept o2 fun e=>by have e:m3=m4:=e;omega).kept c5 fun e=>by have e:m3=G:=e;omega,p3⟩,n5,g5,o3.kept c5 fun e=>by have e:m4=G:=e;omega,o4.map fun h=>h.over c5 (fun k o _ e=>?_) fun k o _=>?_⟩
       ·have e:k=G:=e;rcases o with o|o
        ·exact o.2 e
        ·omega
       ·have e:k=G:=e;rcases o with o|o
        ·exact o.2 e
        ·omega
       ·rcases o with o|o
        ·exact o.1
        ·omega
     ·have i2:=zH (x4.o.2 (by omega));have D7:Yd (ah z4 G 27 (zX k3 v3 a5 a4 A3 S c3 B3 b3 d3 X3 l3 e3).toArray/\TC z4 tl (zX k3 v3 a5 a4 A3 S c3 B3 b3 d3 X3 l3 e3)/\vO f x tl/\ag (fun k=>k=m3\/k=m4\/k=G) z3 z4/\(∃ S g3,aE bw z4 m3 S g3/\vM m f g3)/\∃ n4 g4,aE bw z4 m4 n4 g4/\qw m f (fun k=>k≠l.heap.size) z4 g4):=⟨e9,u1.overN a1 o0,⟨fun h=>by have:=i2.o;omega,fun _=>u2⟩,a1.mono fun k h=>.inl h,⟨c9,a6,g2,g6⟩,h0,b6,g9,h8.map fun h=>h.mono fun b hb _=>hb.1⟩;clear a1 g2 g6 j1 j2 j3 j4 j5 j6 j7 f8 g0 g1 u1 u2 u3 u4 u5 Y q2 q3 V X b0 q6 d4 q7 q0 o0 O c7 e9 B7 g9 h8 g7;go_wp2_with fail
      go_meet
      case rel=>exact⟨tl,k3,v3,a5,a4,A3,S,c3,B3,b3,d3,X3,l3,e3,_,rfl,D7.o⟩
    case rest=>
     obtain⟨T,k8,v8,d5,d0,A8,n8,c8,B8,b8,d8,X8,l8,e8,z6,rfl,HC⟩:=hcut;obtain⟨Y,q2,q3,V,⟨D0,y0,X,b0⟩,⟨h0,b6,q6,d4⟩,q7⟩:=HJ.o;obtain⟨U,p2,p3,p4,p5,p6⟩:=HC.o;obtain⟨u1,u2,u3,u4,u5⟩:=x6.o;have hm:=k4.o;have g8:ag (fun k=>k=l.heap.size\/k=m3\/k=m4) wr z6:=eR (b5.o.mono fun k h=>.inl h) p4 fun i h=>by
      rcases h with h|h|h
      ·exact .inr (.inr (.inl h))
      ·exact .inr (.inr (.inr h))
      ·exact .inl (by omega)
     have O:NC wr fun k=>k=l.heap.size\/k=m3\/k=m4:=fun k e i=>by
      rcases e with e|e|e
      ·exact t9.o k e i
      ·obtain⟨es,c,h,_⟩:=X.is;rw[e];exact fO h i
      ·obtain⟨es,c,h,_⟩:=q6.is;rw[e];exact fO h i
     have x1:=zH (An z6 (Y.overN g8 O) HX.o p2 (by have:=x0.o;omega));have v0:Yd (ag (fun k=>k=m3\/k=m4) l z6):=eR V g8 fun i h=>h.elim (fun e=>.inl (Nat.le_of_eq e.symm)) .inr;have k9:Yd (AV J f (fun z=>left z&&!z.sameKey (.int .i64 x)) (bV (x,T) gs)/\(bV (x,T) gs).length+N<=nb):=⟨q2.add D5.o (by rw[i1.o.1];simp) p3,by have:=v9.o;rw[lJ];omega⟩;have Z:Yd (z6.ranges prog 3 sR n l.heap.size nb D (fun z=>left z&&!z.sameKey (.int .i64 x)) N/\l.heap.size<z6.heap.size):=by
      obtain⟨j1,j2,j3,j4,j5,j6,j7⟩:=a2.o;exact⟨ij k6.o (p4.block _ k6.o.owns.lt fun e=>by rcases e with e|e|e<;>omega) (p4.block _ k6.o.lt fun e=>by rcases e with e|e|e<;>omega),by have:=g8.size;omega⟩
     have w5:=zH (zW p5 p6);obtain⟨t0,t1,t2,t3,t4,t5,t6⟩:=U.r7;clear Y q2 q3 V X b0 q6 d4 q7 U p2 p3 p4 p5 p6 u1 u2 u3 u4 u5 hm g8 O;go_wp2_with fail;refine x1.o.mono ?_;rintro e z7 ⟨ov,rfl,z0,a0⟩;have t8:Yd (z7.ranges prog 3 sR n l.heap.size nb D (fun z=>left z&&!z.sameKey (.int .i64 x)) N):=ij Z.o.1 (a0.block _ Z.o.1.owns.lt) (a0.block _ Z.o.1.lt);have D4:Yd (BL (z7) (ov) ((bV (x,T) gs))/\AV J f ((fun z:Lit=>left z&&!z.sameKey (.int .i64 x))) ((bV (x,T) gs))/\((bV (x,T) gs)).length+(N)<=nb/\ag (fun k=>k=m3\/k=m4) l (z7)/\(∃ S g3,aE bw (z7) m3 S g3/\vM m f g3)/\(∃ n4 g4,aE bw (z7) m4 n4 g4/\qw m f (fun k=>k≠l.heap.size) (z7) g4)/\l.heap.size<(z7).heap.size):=by
      obtain⟨⟨S,g3,o1,o2⟩,n4,g4,o3,o4⟩:=w5.o;exact⟨z0,k9.o.1,k9.o.2,eR v0.o (.of_below (p:=fun _=>False) a0) fun i h=>h.elim,⟨S,g3,o1.kept (p:=fun _=>False) (.of_below a0) fun h=>h,o2⟩,⟨n4,g4,o3.kept (p:=fun _=>False) (.of_below a0) fun h=>h,o4.map fun h=>h.onto a0⟩,zD Z.o.2 a0.size⟩
     clear z0 a0 t0 t1 t2 t3 t4 t5 t6 x1 Z w5 k9 v0;go_wp2_with fail
     go_roundw
     case measure=>rw[t8.o.left_eq,D6.o];exact v9.o
     case rel=>exact⟨_,N,bV (x,T) gs,t8.o,D4.o⟩
def UNQ (a b:Tm) (W:World) (e:Ending) (W':World):Prop:=∃ lv er ok bs,e=.returned (.tuple #[lv,.bool ok,.int .i64 er])/\eN a b er ok bs/\BL W' lv bs/\zZ W W'/\(∀ p∈bs,p.2.err0=0/\p.2.count<=10000)/\bs.length<=50000
theorem CQ {a:List (Int×Tm)} {v:Int} {x:Tm} (h:fnd a v=some x):∃ j,∃ c:j<a.length,(a[j]).2=x/\(a[j]).1=v:=by
 unfold fnd at h;rw[Option.map_eq_some_iff]at h;obtain⟨p,d,rfl⟩:=h;have b:=List.find?_some d;simp only[beq_iff_eq]at b;obtain⟨j,c,e⟩:=List.mem_iff_getElem.1 (List.mem_of_find?_eq_some d);exact⟨j,c,by rw[e],by rw[e];exact b⟩
theorem Cy.size {a b:Tm} {c:List (Int×Tm)} (h:Cy a b true c) (n:cW [a,b]=0) {i:Nat} (o:i<c.length) (m:10000<(c[i]).2.count):eN a b 3 false []:=by
 rcases h with ⟨h,_⟩|⟨_,_,f,g,j,k⟩
 ·cases h
 ·have e:=ji j o rfl;rcases k (c[i]).1 with ⟨h,_⟩|⟨T,d,_,l,_⟩
  ·rw[e]at h;cases h
  ·rw[e]at d;cases d;refine .size n f g (c[i]).1 ?_;rcases Nat.lt_or_ge 10000 (f (c[i]).1).count with h|h
   ·exact h
   ·rw[<-l.1 h];exact m
theorem Cy.fine {a b:Tm} {c:List (Int×Tm)} (h:Cy a b true c) (j:∀ i (d:i<c.length),(c[i]).2.count<=10000):∀ p∈c,p.2.err0=0/\p.2.count<=10000:=fun p o=>by
 obtain⟨i,d,rfl⟩:=List.mem_iff_getElem.1 o;refine⟨?_,j i d⟩;rcases h with ⟨h,_⟩|⟨_,_,f,q,l,m⟩
 ·cases h
 ·have k:=ji l d rfl;rcases m (c[i]).1 with ⟨h,_⟩|⟨T,e,_,g,n⟩
  ·rw[k]at h;cases h
  ·rw[k]at e;cases e;have r:=j i d;rcases Nat.lt_or_ge 10000 (f (c[i]).1).count with h|h
   ·have:=g.2 h;omega
   ·rw[g.1 h];exact n
theorem Cy.ok {a b:Tm} {d:List (Int×Tm)} (h:Cy a b true d) (q:cW [a,b]=0) (p:∀ i (t:i<d.length),(d[i]).2.count<=10000):eN a b 0 true d:=by
 rcases h with ⟨h,_⟩|⟨_,_,f,m,n,l⟩
 ·cases h
 ·have k:∀ v T,fnd d v=some T->vO f v T->(f v).count<=10000:=fun v T c g=>by
   obtain⟨j,r,e,_⟩:=CQ c;have o:=p j r;rcases Nat.lt_or_ge 10000 (f v).count with h|h
   ·have:=g.2 h;rw[e]at o;omega
   ·exact h
  refine .ok q f m (fun v=>?_) d n fun v=>?_
  ·rcases l v with ⟨_,h⟩|⟨T,c,_,g,_⟩
   ·rw[h,Tm.var,Tm.count,am];omega
   ·exact k v T c g
  ·unfold bnd1;rcases l v with ⟨c,h⟩|⟨T,c,h,g,_⟩
   ·rw[if_pos h,c]
   ·rw[if_neg h,c,g.1 (k v T c g)]
theorem pS {w:World} {a b:Tm} {G I:List Value} (ha:TC w a G) (hb:TC w b I) (W:World) (hW:zZ w W):
 Calls prog 10 #[.agg G.toArray,.agg I.toArray] W fun e f=>UNQ a b W e f:=by
 have d0:Yd (∀ f,zZ W f->Calls prog 42 #[.agg G.toArray] f fun e w'=>e=.returned (.int .i64 a.check)/\zZ f w'):=fun f h=>kD ha f (hW.trans (h.mono hW.size));have d3:Yd (∀ f,zZ W f->Calls prog 42 #[.agg I.toArray] f fun e w'=>e=.returned (.int .i64 b.check)/\zZ f w'):=fun f h=>kD hb f (hW.trans (h.mono hW.size));have e3:Yd (a.check=0->b.check=0->∀ f,zZ W f->Calls prog 43 #[.agg G.toArray,.agg I.toArray] f fun e w'=>UNP a b f e w'):=fun D h2 f h=>pR ha hb D h2 f (hW.trans (h.mono hW.size));have HC:Yd ((a.check≠0->cW [a,b]=a.check/\eN a b a.check false [])/\(a.check=0->b.check≠0->eN a b b.check false [])/\(a.check=0->b.check=0->cW [a,b]=0)):=by
  have B:a.check≠0->cW [a,b]=a.check:=fun h=>by rw[cW,if_neg h]
  have C:a.check=0->b.check≠0->cW [a,b]=b.check:=fun D h=>by rw[cW,if_pos D,cW,if_neg h]
  refine⟨fun h=>⟨B h,?_⟩,fun D h=>?_,fun D h=>by rw[cW,if_pos D,cW,if_pos h,cW]⟩
  ·have:=eN.bad (a:=a) (b:=b) (by rw[B h];exact h)
   rwa [B h]at this
  ·have:=eN.bad (a:=a) (b:=b) (by rw[C D h];exact h)
   rwa [C D h]at this
 have A:Yd (∀ f,BL f (.slice none 0 0) []):=fun f=>⟨none,0,fun _=>[],rfl,zN _,by unfold maxLen;omega,fun h=>absurd h (by simp),fun i h=>absurd h (by simp)⟩;obtain⟨k1,v1,t,o,M,n1,X,O,U,Z,S,l1,B,g7⟩:=ha.form;obtain⟨k2,v2,x,r,N,n2,Y,P,V,d2,T,l2,C,g8⟩:=hb.form;subst g7 g8;clear ha hb hW;go_enter func10,ntmps10;go_wp2_with fail;generalize hy:World.alloc _ _=w1;obtain⟨b3,D,h2,h3⟩:=bk3 hy;generalize h5:W.heap.size+1+1=p2 at*;generalize h4:W.heap.size+1=p1 at*;have a9:Yd (ah (w1) W.heap.size 27 (zX k1 v1 t o M n1 X O U Z S l1 B).toArray/\ah (w1) p1 27 (zX k2 v2 x r N n2 Y P V d2 T l2 C).toArray/\ah (w1) p2 27 #[.int .i64 k1,.int .i64 v1,.string t,.bool o,.slice M n1 X,.slice O U Z,.slice S l1 B,.int .i64 k2,.int .i64 v2,.string x,.bool r,.slice N n2 Y,.slice P V d2,.slice T l2 C]/\zZ W (w1)/\(0<(0)->a.check=0)/\(1<(0)->b.check=0)):=⟨D,h2,h3,b3,fun h=>absurd h (by omega),fun h=>absurd h (by omega)⟩;clear hy b3 D h2 h3 h4 h5
 go_loopg [18] 2 (fun gk h7 wr=>∃ j:Nat,gk+j=2/\h7=.int .i64 (j:Int)/\Yd (ah (wr) W.heap.size 27 (zX k1 v1 t o M n1 X O U Z S l1 B).toArray/\ah (wr) p1 27 (zX k2 v2 x r N n2 Y P V d2 T l2 C).toArray/\ah (wr) p2 27 #[.int .i64 k1,.int .i64 v1,.string t,.bool o,.slice M n1 X,.slice O U Z,.slice S l1 B,.int .i64 k2,.int .i64 v2,.string x,.bool r,.slice N n2 Y,.slice P V d2,.slice T l2 C]/\zZ W (wr)/\(0<(j)->a.check=0)/\(1<(j)->b.check=0)))
 case atStart=>exact⟨0,by omega,rfl,a9.o⟩
 case round=>
  clear a9;obtain⟨j,i0,rfl,F⟩:=hrel;obtain⟨G,I,l,d,ka,kb⟩:=F.o;have e7:j=0\/j=1\/j=2:=by omega
  rcases e7 with rfl|rfl|rfl
  ·have g0:=l.cell 0;have g1:=l.cell 1;have g2:=l.cell 2;have g3:=l.cell 3;have g4:=l.cell 4;have g5:=l.cell 5;have g6:=l.cell 6;simp only[L3]at g0 g1 g2 g3 g4 g5 g6;clear G I l ka kb;go_wp2_with fail;refine (d0.o _ (by exact d.trans ((ae wr _).mono d.size))).mono ?_;rintro e E ⟨rfl,k⟩;have c:Yd (zZ wr E):=(ae wr _).trans (k.mono (ae wr _).size);obtain⟨m,g⟩:∃ m,a.check=m:=⟨_,rfl⟩;rw[g];clear k;by_cases J:m=0
   ·subst J;have a2:Yd (ah (E) W.heap.size 27 (zX k1 v1 t o M n1 X O U Z S l1 B).toArray/\ah (E) p1 27 (zX k2 v2 x r N n2 Y P V d2 T l2 C).toArray/\ah (E) p2 27 #[.int .i64 k1,.int .i64 v1,.string t,.bool o,.slice M n1 X,.slice O U Z,.slice S l1 B,.int .i64 k2,.int .i64 v2,.string x,.bool r,.slice N n2 Y,.slice P V d2,.slice T l2 C]/\zZ W (E)/\(0<(1)->a.check=0)/\(1<(1)->b.check=0)):=⟨F.o.1.to c.o,F.o.2.1.to c.o,F.o.2.2.1.to c.o,d.trans (c.o.mono d.size),fun _=>g,fun h=>absurd h (by omega)⟩;clear g d;go_wp2_with fail
    go_roundg (gk-1)
    case measure=>omega
    case rel=>exact⟨1,by omega,by go_num,a2.o⟩
   ·have y:Yd (¬m=0/\a.check=m):=⟨J,g⟩;have f8:(m != 0)=true:=by simp[J]
    clear J g;go_wp2_with fail;refine bodyPost_ret (v:=.tuple #[.slice none 0 0,.bool false,.int .i64 m]) (by rw[bS rfl];rfl) rfl ?_;exact⟨_,m,false,[],rfl,by rw[<-y.o.2];exact (HC.o.1 (by rw[y.o.2];exact y.o.1)).2,A.o _,d.trans (c.o.mono d.size),fun p hp=>(by cases hp),by simp⟩
  ·have g9:=ka (by omega);have g0:=l.cell 7;have g1:=l.cell 8;have g2:=l.cell 9;have g3:=l.cell 10;have g4:=l.cell 11;have g5:=l.cell 12;have g6:=l.cell 13;simp only[L3]at g0 g1 g2 g3 g4 g5 g6;clear G I l ka kb g9;go_wp2_with fail;refine (d3.o _ (by exact d.trans ((ae wr _).mono d.size))).mono ?_;rintro e E ⟨rfl,k⟩;have c:Yd (zZ wr E):=(ae wr _).trans (k.mono (ae wr _).size);obtain⟨m,g⟩:∃ m,b.check=m:=⟨_,rfl⟩;rw[g];clear k;by_cases J:m=0
   ·subst J;have a2:Yd (ah (E) W.heap.size 27 (zX k1 v1 t o M n1 X O U Z S l1 B).toArray/\ah (E) p1 27 (zX k2 v2 x r N n2 Y P V d2 T l2 C).toArray/\ah (E) p2 27 #[.int .i64 k1,.int .i64 v1,.string t,.bool o,.slice M n1 X,.slice O U Z,.slice S l1 B,.int .i64 k2,.int .i64 v2,.string x,.bool r,.slice N n2 Y,.slice P V d2,.slice T l2 C]/\zZ W (E)/\(0<(2)->a.check=0)/\(1<(2)->b.check=0)):=⟨F.o.1.to c.o,F.o.2.1.to c.o,F.o.2.2.1.to c.o,d.trans (c.o.mono d.size),fun _=>F.o.2.2.2.2.1 (by omega),fun _=>g⟩;clear g d;go_wp2_with fail
    go_roundg (gk-1)
    case measure=>omega
    case rel=>exact⟨2,by omega,by go_num,a2.o⟩
   ·have y:Yd (¬m=0/\b.check=m):=⟨J,g⟩;have f8:(m != 0)=true:=by simp[J]
    clear J g;go_wp2_with fail;refine bodyPost_ret (v:=.tuple #[.slice none 0 0,.bool false,.int .i64 m]) (by rw[bS rfl];rfl) rfl ?_;exact⟨_,m,false,[],rfl,by rw[<-y.o.2];exact HC.o.2.1 (F.o.2.2.2.2.1 (by omega)) (by rw[y.o.2];exact y.o.1),A.o _,d.trans (c.o.mono d.size),fun p hp=>(by cases hp),by simp⟩
  ·have HK:=zH (zW (ka (by omega)) (kb (by omega)));have a8:=zH d;have HU:=zH (e3.o HK.o.1 HK.o.2 wr d);obtain⟨g0,g1,g2,g3,g4,g5,g6⟩:=G.r7;obtain⟨f0,f1,f2,f3,f4,f5,f6⟩:=I.r7;clear G I l d ka kb;go_wp2_with fail;refine HU.o.mono ?_;rintro e w2 ⟨lv,ok,z,rfl,hu,a5,k⟩;clear HU g0 g1 g2 g3 g4 g5 g6 f0 f1 f2 f3 f4 f5 f6;have c:Yd (zZ W w2):=a8.o.trans (k.mono a8.o.size);have a1:Yd (cW [a,b]=0):=HC.o.2.2 HK.o.1 HK.o.2;cases ok with
   |false=>
    have d6:Yd (∀ s:Int->Tm,a.sb s≠b.sb s):=by
     rcases hu with ⟨_,_,h⟩|⟨h,_⟩
     ·exact h
     ·cases h
    clear hu a5 k;go_wp2_with fail;refine bodyPost_ret (v:=.tuple #[.slice none 0 0,.bool false,.int .i64 0]) (by rw[bS rfl];rfl) rfl ?_;exact⟨_,0,false,[],rfl,.no a1.o d6.o,A.o _,c.o,fun p hp=>(by cases hp),by simp⟩
   |true=>
    have a4:=zH hu;have c9:=zH a5;obtain⟨Ar,e6,cs,rfl,f7,hm,b7,b5⟩:=a5;have d7:=zH b7;have c7:=zH b5;have b6:z.length<=50000:=by
     rcases hu with ⟨h,_⟩|⟨_,h,_⟩
     ·cases h
     ·exact h
    obtain⟨n,hn⟩:∃ n,z.length=n:=⟨_,rfl⟩;rw[hn]at b6 f7 ⊢;have HN:=zH hn;unfold maxLen at hm;clear hu k b7 b5 hn;go_wp2_with fail
    go_loopg [38] n (fun gk h8 wr=>∃ i:Nat,gk+i=n/\h8=.int .i64 (i:Int)/\Yd (zZ w2 wr/\∀ q (L:q<z.length),q<i->(z[q]).2.count<=10000))
    case atStart=>exact⟨0,by omega,rfl,Below.refl _ _,fun q _ h=>absurd h (by omega)⟩
    case round=>
     obtain⟨i,h9,rfl,Q⟩:=hrel;by_cases hi:i<n
     ·have a6:i<z.length:=by rw[HN.o];exact hi
      obtain⟨b8,o8,k8,v8,c6,c5,A8,n8,c8,B8,m8,d8,X8,l8,e8,e9,c4,h0,z0,z1,z2,z3,z4,z5,z6,z7⟩:=cD d7.o c7.o Q.o.1 a6;subst e9;have i1:(0:Int)<=(i:Int):=by omega
      have i2:(i:Int)<(n:Int):=by omega
      have a3:Yd (∀ f,zZ w2 f->Calls prog 44 #[.agg (zX k8 v8 c6 c5 A8 n8 c8 B8 m8 d8 X8 l8 e8).toArray] f fun e w'=>e=.returned (.int .i64 ((min (z[i]).2.count 1000000:Nat):Int))/\zZ f w'):=fun f h=>oG c4 f h;have a0:Yd (zZ w2 (wr.alloc (.cells #[.int .i64 (z[i]).1,.int .i64 k8,.int .i64 v8,.string c6,.bool c5,.slice A8 n8 c8,.slice B8 m8 d8,.slice X8 l8 e8] 37))):=Q.o.1.trans ((ae wr _).mono Q.o.1.size);obtain⟨sz,c0⟩:∃ sz,min (z[i]).2.count 1000000=sz:=⟨_,rfl⟩;have b0:Yd ((sz<=10000->(z[i]).2.count<=10000)/\(10000<sz->10000<(z[i]).2.count)):=⟨fun h=>by omega,fun h=>by omega⟩;rw[c0]at a3;have d5:=zH a6;generalize (z[i]'a6).1=bx at*;clear c4 h0 c0;go_wp2_with fail;refine (a3.o _ (by exact a0.o)).mono ?_;rintro e y3 ⟨rfl,b4⟩;have a7:Yd (zZ w2 y3):=a0.o.trans (b4.mono a0.o.size);clear b4 a3 z0 z1 z2 z3 z4 z5 z6 z7;by_cases hs:sz<=10000
      ·have h6:¬(10000:Int)<(sz:Int):=by omega
       have d4:Yd (∀ q (L:q<z.length),q<i+1->(z[q]).2.count<=10000):=fun q L h=>by
        by_cases e:q=i
        ·subst e;exact b0.o.1 hs
        ·exact Q.o.2 q L (by omega)
       go_wp2_with fail
       go_roundg (gk-1)
       case measure=>omega
       case rel=>exact⟨i+1,by omega,by go_num,a7.o,d4.o⟩
      ·have h6:(10000:Int)<(sz:Int):=by omega
       have e5:Yd (eN a b 3 false []):=a4.o.size a1.o d5.o (b0.o.2 (by omega));go_wp2_with fail;refine bodyPost_ret (v:=.tuple #[.slice none 0 0,.bool false,.int .i64 3]) (by rw[bS rfl];rfl) rfl ?_;exact⟨_,3,false,[],rfl,e5.o,A.o _,c.o.trans (a7.o.mono c.o.size),fun p hp=>(by cases hp),by simp⟩
     ·obtain rfl:i=n:=by omega
      have e0:=zH (a4.o.fine fun q L=>Q.o.2 q L (by rw[<-HN.o];exact L));have e4:Yd (eN a b 0 true z):=a4.o.ok a1.o fun q L=>Q.o.2 q L (by rw[<-HN.o];exact L);go_wp2_with fail;refine bodyPost_ret (v:=.tuple #[.slice Ar i e6,.bool true,.int .i64 0]) (by rw[bS rfl];rfl) rfl ?_;exact⟨_,0,true,z,rfl,e4.o,by rw[<-HN.o];exact c9.o.to Q.o.1,c.o.trans (Q.o.1.mono c.o.size),e0.o,by rw[HN.o];exact b6⟩
end Go.Proofs.YtlhojoefhannnaaGreat

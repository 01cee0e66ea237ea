/- (*heap.unifier).again: was a pair of compounds met before? And 8 more texts. -/
import Derived.Test.YtlhojoefhannnaaGreatJx16
set_option linter.unusedVariables false
set_option linter.unusedSimpArgs false
set_option maxRecDepth 100000
set_option maxHeartbeats 51200000
namespace Go.Proofs.YtlhojoefhannnaaGreat
open Go.Proofs.Tryz Go.RowKit NumB
structure GT (och:Bool) (B h U:Nat) (st:Value) (p md m1 m2:Nat) (f:Nat->Option Tm) (L:List Tm) (X Y:Array Value) (w:World) (n:Nat) (g:Value->Option Value) (Ts:List Tm) (W:World):Prop where
 ns:aB f L W p m1 m2 Ts
 u:ah W U 106 #[.pointer (some ⟨h,0,none⟩),.bool och,.pointer (some ⟨p,0,none⟩),.map (some md),.slice none 0 0,st]
 x:ah W w.heap.size 27 X
 y:ah W (w.heap.size+1) 27 Y
 mm:aE iL W md n g
 n1:¬KN m1 m2 md
 fr:aD [some 106,none] w W
 be:Below B w W
theorem aE.keptK {a:Value->Prop} {p:Nat->Prop} {w w':World} {b n:Nat} {f:Value->Option Value} (h:aE a w b n f) (e:ag p w w') (d:¬p b):aE a w' b n f:=h.same (fun o c=>(e.block b (an c) d).trans c) fun _ h=>h
theorem GT.below {och:Bool} {B h U:Nat} {i:Value} {p e c d:Nat} {f:Nat->Option Tm} {L:List Tm} {X Y:Array Value} {w:World} {n:Nat} {gv:Value->Option Value} {Ts:List Tm} {W b:World} (g:GT och B h U i p e c d f L X Y w n gv Ts W) (j:B<=W.heap.size) (a:zZ W b):GT och B h U i p e c d f L X Y w n gv Ts b:=
 ⟨g.ns.below a,g.u.to a,g.x.to a,g.y.to a,g.mm.keptK (p:=fun _=>False) (.of_below a) id,g.n1,g.fr.trans (aD.of_below a),g.be.trans (a.mono j)⟩
theorem GT.name {och:Bool} {B h U:Nat} {l:Value} {p j a b:Nat} {f:Nat->Option Tm} {L:List Tm} {X Y:Array Value} {w:World} {n:Nat} {gv:Value->Option Value} {Ts Us:List Tm} {W c:World} (g:GT och B h U l p j a b f L X Y w n gv Ts W) (i:ag (KN a b) W c) (o:aB f L c p a b Us) (q:B<=a/\B<=b) (m:B<=W.heap.size):GT och B h U l p j a b f L X Y w n gv Us c:=
 have d:aD [none] W c:=g.ns.frame i (by decide)
 ⟨o,g.u.frT d (by decide),g.x.frT d (by decide),g.y.frT d (by decide),g.mm.keptK i g.n1,g.n1,g.fr.trans (d.mono (by decide)),g.be.trans (i.below m fun k e=>by rcases e with rfl|rfl<;>omega)⟩
theorem GT.key {och:Bool} {B h U:Nat} {y:Value} {p x t v:Nat} {f:Nat->Option Tm} {L:List Tm} {X Y:Array Value} {w:World} {n K:Nat} {gv:Value->Option Value} {Ts:List Tm} {W:World} {z A:Value} (g:GT och B h U y p x t v f L X Y w n gv Ts W/\B<=W.heap.size) (r:ah W K 134 #[z,A]) (hK:w.heap.size<=K) (q:B<=w.heap.size) (b c:Value):
 (GT och B h U y p x t v f L X Y w n gv Ts ((W.setCell ⟨K,0,none⟩ b).setCell ⟨K,1,none⟩ c)/\B<=((W.setCell ⟨K,0,none⟩ b).setCell ⟨K,1,none⟩ c).heap.size)/\ah ((W.setCell ⟨K,0,none⟩ b).setCell ⟨K,1,none⟩ c) K 134 #[b,c]:=by
 have a:=r.set_ 0 b;have j:=a.set_ 1 c;simp only[L1]at a j;have d:aD [some 134] W ((W.setCell ⟨K,0,none⟩ b).setCell ⟨K,1,none⟩ c):=((aD.refl _ _).setCell (p:=⟨K,0,none⟩) r (by decide) _).setCell (p:=⟨K,1,none⟩) a (by decide) _;obtain⟨g,D⟩:=g;refine⟨⟨⟨g.ns.frT d (by decide) (by decide) (by decide),g.u.frT d (by decide),g.x.frT d (by decide),g.y.frT d (by decide),g.mm.same (fun o m=>?_) (fun _ h=>h),g.n1,?_,(g.be.setCell (p:=⟨K,0,none⟩) (zC q hK) _).setCell (p:=⟨K,1,none⟩) (zC q hK) _⟩,by simpa using D⟩,j⟩
 ·obtain⟨_,_,e,_⟩:=g.mm.is;rw[e]at m;cases m;exact d _ _ e (eE.map (by decide))
 ·intro k o i m;have C:=g.fr k o i m;have l:k≠K:=by have:=an i;omega
  exact (Below.heap_setCell _ ⟨K,1,none⟩ c k l).trans ((Below.heap_setCell _ ⟨K,0,none⟩ b k l).trans C)
theorem GT.cells {och:Bool} {B h U:Nat} {O:Value} {p N J M:Nat} {f:Nat->Option Tm} {L:List Tm} {w:World} {n:Nat} {gv:Value->Option Value} {Ts:List Tm} {W:World} {k q:Int} {xs:ByteArray} {m:Bool} {a:Option Addr} {d e:Nat} {b:Option Addr} {i j:Nat} {c:Option Addr} {l o:Nat} {C I:Int} {G:ByteArray} {E:Bool} {r:Option Addr} {x y:Nat} {t:Option Addr} {z A:Nat} {v:Option Addr} {D F:Nat} (g:GT och B h U O p N J M f L #[.int .i64 k,.int .i64 q,.string xs,.bool m,.slice a d e,.slice b i j,.slice c l o] #[.int .i64 C,.int .i64 I,.string G,.bool E,.slice r x y,.slice t z A,.slice v D F] w n gv Ts W):W.cell? ⟨U,2,none⟩=some (.pointer (some ⟨p,0,none⟩))/\W.cell? ⟨w.heap.size,0,none⟩=some (.int .i64 k)/\W.cell? ⟨w.heap.size,1,none⟩=some (.int .i64 q)/\W.cell? ⟨w.heap.size,2,none⟩=some (.string xs)/\W.cell? ⟨w.heap.size,3,none⟩=some (.bool m)/\W.cell? ⟨w.heap.size,4,none⟩=some (.slice a d e)/\W.cell? ⟨w.heap.size,5,none⟩=some (.slice b i j)/\W.cell? ⟨w.heap.size,6,none⟩=some (.slice c l o)/\W.cell? ⟨w.heap.size+1,0,none⟩=some (.int .i64 C)/\W.cell? ⟨w.heap.size+1,1,none⟩=some (.int .i64 I)/\W.cell? ⟨w.heap.size+1,2,none⟩=some (.string G)/\W.cell? ⟨w.heap.size+1,3,none⟩=some (.bool E)/\W.cell? ⟨w.heap.size+1,4,none⟩=some (.slice r x y)/\W.cell? ⟨w.heap.size+1,5,none⟩=some (.slice t z A)/\W.cell? ⟨w.heap.size+1,6,none⟩=some (.slice v D F):=
 ⟨g.u.cell 2,g.x.cell 0,g.x.cell 1,g.x.cell 2,g.x.cell 3,g.x.cell 4,g.x.cell 5,g.x.cell 6,g.y.cell 0,g.y.cell 1,g.y.cell 2,g.y.cell 3,g.y.cell 4,g.y.cell 5,g.y.cell 6⟩
def jH (g:Value->Option Value) (Ts:List Tm) (Mt:List (Tm×Tm)):Prop:=(∀ k x,g k=some x->x=.bool true)/\(∀ i j:Nat,(g (.agg #[.int .i64 (i:Int),.int .i64 (j:Int)])).isSome=true->∃ x y,Ts[i]?=some x/\Ts[j]?=some y/\(x,y)∈Mt)/\
 ∀ x y,(x,y)∈Mt->∃ i j:Nat,Ts[i]?=some x/\Ts[j]?=some y/\(g (.agg #[.int .i64 (i:Int),.int .i64 (j:Int)])).isSome=true
def eo:List (Option TypeId):=[some 95,some 98,some 130,some 106,some 101,none]
abbrev k2 (i j:Nat):Value:=.agg #[.int .i64 (i:Int),.int .i64 (j:Int)]
theorem CU {i j a b:Nat} (h:k2 a b=k2 i j):a=i/\b=j:=by
 simp only[k2,Value.agg.injEq,Array.mk.injEq,List.cons.injEq,Value.int.injEq,true_and,and_true]at h;omega
theorem jH.put {g:Value->Option Value} {Ts d:List Tm} {Mt:List (Tm×Tm)} (p:jH g Ts Mt) (f:∀ (i:Nat) (t:Tm),Ts[i]?=some t->d[i]?=some t) {i j:Nat} {x y:Tm} (w:d[i]?=some x) (z:d[j]?=some y) {was:Bool} (hw:was=true↔(x,y)∈Mt):
 jH (gL g (k2 i j) (.bool true)) d (if was then Mt else (x,y)::Mt):=by
 have o:(x,y)∈(if was then Mt else (x,y)::Mt):=by
  cases was with
  |true=>exact hw.1 rfl
  |false=>simp
 have c:∀ q,q∈Mt->q∈(if was then Mt else (x,y)::Mt):=fun q B=>by cases was<;>simp[B]
 refine⟨kc p.1,fun a b h=>?_,fun u v h=>?_⟩
 ·by_cases e:k2 a b=k2 i j
  ·obtain⟨rfl,rfl⟩:=CU e;exact⟨x,y,w,z,o⟩
  ·have l:(g (k2 a b)).isSome=true:=by rw[<-jz (g:=g) (v:=.bool true) e];exact h
   obtain⟨u,v,m,n,A⟩:=p.2.1 a b l;exact⟨u,v,f _ _ m,f _ _ n,c _ A⟩
 ·have r:(u,v)∈Mt\/(u,v)=(x,y):=by
   cases was with
   |true=>exact .inl h
   |false=>exact (List.mem_cons.1 h).symm
  rcases r with k|k
  ·obtain⟨a,b,l,m,n⟩:=p.2.2 u v k;exact⟨a,b,f _ _ l,f _ _ m,j9 n⟩
  ·cases k;exact⟨i,j,w,z,by rw[gi];rfl⟩
theorem jH.was {g:Value->Option Value} {Ts c:List Tm} {Mt:List (Tm×Tm)} (p:jH g Ts Mt) (f:∀ (i:Nat) (t:Tm),Ts[i]?=some t->c[i]?=some t) (z:c.Nodup) {i j:Nat} {x y:Tm} (n:c[i]?=some x) (o:c[j]?=some y):(g (k2 i j)).isSome=true↔(x,y)∈Mt:=by
 have d:∀ {a b:Nat} {t:Tm},c[a]?=some t->c[b]?=some t->a=b:=fun {a b t} m w=>by
  exact (List.getElem?_inj (zK m).1 z).1 (m.trans w.symm)
 constructor
 ·intro h;obtain⟨u,v,k,l,e⟩:=p.2.1 i j h;have q:=(f _ _ k).symm.trans n;have r:=(f _ _ l).symm.trans o;cases q;cases r;exact e
 ·intro h;obtain⟨a,b,k,l,e⟩:=p.2.2 x y h;rw[d (f _ _ k) n,d (f _ _ l) o]at e;exact e
noncomputable def rH (Mt:List (Tm×Tm)) (x y:Tm):Bool:=@decide ((x,y)∈Mt) (Classical.propDecidable _)
theorem js {Mt:List (Tm×Tm)} {x y:Tm}:rH Mt x y=true↔(x,y)∈Mt:=by unfold rH;exact @decide_eq_true_iff _ (Classical.propDecidable _)
noncomputable def wO (Mt:List (Tm×Tm)) (x y:Tm):List (Tm×Tm):=if rH Mt x y then Mt else (x,y)::Mt
theorem vH {L:List Tm} (a:L.length<=1000000) {i:Nat} (h:i<=L.length):aG (i:Int):=⟨by omega,by omega⟩
theorem GT.look {och:Bool} {B h U:Nat} {I:Value} {p d F G:Nat} {f:Nat->Option Tm} {L:List Tm} {X Y:Array Value} {w:World} {n:Nat} {gv:Value->Option Value} {Ts:List Tm} {Mt:List (Tm×Tm)} (l:jH gv Ts Mt) {Us:List Tm} {W:World} (o:GT och B h U I p d F G f L X Y w n gv (Ts++Us) W) (q:L.length<=1000000) {i j:Nat} {x y:Tm} (g:i<=L.length/\(Ts++Us)[i]?=some x) (k:j<=L.length/\(Ts++Us)[j]?=some y):
 ∃ (b:Array MapEntry) (c:Nat),W.heap[d]?=some (.map b c)/\(∀ a:World,a.heap[d]?=some (.map b c)->(Instr.lookup 104 (.map (some d)) (.agg #[.int .i64 (i:Int),.int .i64 (j:Int)]) false).run prog a=.ok (.bool (rH Mt x y)) a)/\jH (gL gv (k2 i j) (.bool true)) (Ts++Us) (wO Mt x y):=by
 obtain⟨b,c,z,A,C,D⟩:=o.mm;have r:∀ (i:Nat) (t:Tm),Ts[i]?=some t->(Ts++Us)[i]?=some t:=fun i t h=>by
  rw[List.getElem?_append_left (zK h).1];exact h
 have hw:=l.was r o.ns.namd.nodup g.2 k.2;have m:(gv (k2 i j)).isSome=rH Mt x y:=by
  rw[Bool.eq_iff_iff,hw,js]
 refine⟨b,c,z,fun a e=>?_,l.put r g.2 k.2 js⟩;rw[<-m];have E:aE iL a d n gv:=⟨b,c,e,A,C,D⟩;rw[(bI (et:=4) (jp a) (mt:=104) (by kernel_rfl) (zeroValue4 a) (pD (vH q g.1) (vH q k.1)) E).2];have:(gv (k2 i j)).getD (.bool false)=.bool (gv (k2 i j)).isSome:=by
  cases hg:gv (k2 i j) with
  |none=>rfl
  |some v=>rw[l.1 _ _ hg];rfl
 rw[show (gv (.agg #[.int .i64 (i:Int),.int .i64 (j:Int)])).getD (.bool false)=.bool (gv (k2 i j)).isSome from this]
theorem aB.keptMd {f:Nat->Option Tm} {L:List Tm} {W z:World} {p i j l:Nat} {Ts:List Tm} (J:aB f L W p i j Ts) (d:ag (fun k=>k=l) W z) (m:¬KN i j l) {E:Array MapEntry} {c:Nat} (I:W.heap[l]?=some (.map E c)):aB f L z p i j Ts:=by
 obtain⟨r,t,⟨n,g,w,x⟩,⟨F,y,A⟩,B,C⟩:=J;have q:∀ {k:Nat} {c:Array Value} {T:TypeId} {f:Nat×Nat},W.heap[k]?=some (Obj.cells c T f)->z.heap[k]?=some (Obj.cells c T f):=fun {k c T f} h=>(d.block k (an h) (fun e=>by
  subst e;rw[I]at h;cases h)).trans h
 refine⟨r,q t,⟨n,g,w.same (fun o a=>(d.block _ (an a) fun e=>m (.inl e.symm)).trans a) ?_,x⟩,⟨F,y.same (fun o a=>(d.block _ (an a) fun e=>m (.inr e.symm)).trans a) (fun v h=>h),A⟩,B,C⟩;rintro v ⟨b,o,D,e,G⟩;exact⟨b,o,D,e,q G⟩
theorem GT.toK {och:Bool} {B h U:Nat} {j:Value} {p i e g:Nat} {f:Nat->Option Tm} {L:List Tm} {X Y:Array Value} {w:World} {n:Nat} {gv:Value->Option Value} {d:List Tm} {W a:World} {K:Nat} {cs:Array Value} {T:TypeId} (b:(GT och B h U j p i e g f L X Y w n gv d W/\B<=W.heap.size)/\ah W K T cs) (c:zZ W a):(GT och B h U j p i e g f L X Y w n gv d a/\B<=a.heap.size)/\ah a K T cs:=⟨⟨b.1.1.below b.1.2 c,zC b.1.2 c.size⟩,b.2.to c⟩
theorem GT.put {och:Bool} {B h U:Nat} {A:Value} {p g x y:Nat} {f:Nat->Option Tm} {L:List Tm} {X Y:Array Value} {w:World} {n:Nat} {gv:Value->Option Value} {q:List Tm} {W:World} (a:GT och B h U A p g x y f L X Y w n gv q W) (N:B<=W.heap.size) (O:B<=g) (r:L.length<=1000000) {i j:Nat} (E:i<=L.length) (F:j<=L.length):
 ∃ z,(Instr.mapUpdate 104 (.map (some g)) (.agg #[.int .i64 (i:Int),.int .i64 (j:Int)]) (.bool true)).run prog W=.ok () z/\AS och z U h (.pointer (some ⟨p,0,none⟩)) (.map (some g)) A/\aB f L z p x y q/\(∃ J,aE iL z g J (gL gv (k2 i j) (.bool true)))/\aD [some 106,none] w z/\Below B w z:=by
 obtain⟨M,c,d,G⟩:=a.mm.is;obtain⟨z,I,C,b⟩:=co (et:=4) (jp W) (mt:=104) (by kernel_rfl) (pD (vH r E) (vH r F)) (.bool true) a.mm;have l:∀ {k:Nat} {c:Array Value} {T:TypeId} {f:Nat×Nat},W.heap[k]?=some (Obj.cells c T f)->¬k=g:=fun t e=>by
  subst e;rw[d]at t;cases t
 have D:aD [none] W z:=(aD.refl _ W).kept b fun k e o v m=>by
  subst e;rw[d]at v;exact m.2 (by decide) _ _ (zI v).symm
 exact⟨z,I,b.blk a.u (l a.u),a.ns.keptMd b a.n1 d,⟨_,C⟩,a.fr.trans (D.mono (by decide)),⟨b.os.trans a.be.os,b.tape.trans a.be.tape,b.output.trans a.be.output,zC a.be.size b.size,fun k h=>(b.block k (by omega) (by omega)).trans (a.be.block k h)⟩⟩
theorem yh {och:Bool} {B h U:Nat} {st:Value} {f:Nat->Option Tm} {L:List Tm} (hL:DC L) {W0 w:World} (f6:cT (PT eo W0) W0 w) {x y:Tm} {cx cy:List Value} (hx:cU (PT eo W0) f w x cx) (hy:cU (PT eo W0) f w y cy) (f7:x∈L) (g0:y∈L) {N M:Value} {Mt:List (Tm×Tm)} (hB:B<=U) (hU:AS och w U h N M st) (hN:oP B f L w N M Mt):
 Calls prog 85 #[.pointer (some ⟨U,0,none⟩),.agg cx.toArray,.agg cy.toArray] w fun e w'=>∃ (N' M':Value),e=.returned (.bool (rH Mt x y))/\AS och w' U h N' M' st/\oP B f L w' N' M' (wO Mt x y)/\aD [some 106,none] w w'/\Below B w w':=by
 have k6:=@run_makeMap prog;obtain⟨t,E,D,A,a,l,m,b,q,r,d,v,C,rfl⟩:=hx.form;obtain⟨S,Z,Y,V,F,J,O,G,P,Q,I,T,X,rfl⟩:=hy.form;have HX:=zH hx;have HY:=zH hy;have f0:Yd (x∈L/\y∈L):=⟨f7,g0⟩;have b8:=zH hL;have e6:=zH f6;have HB:=zH hB;have h0:=zH hN;have h7:Yd (ah w U 106 #[zY h,.bool och,N,M,.slice none 0 0,st]):=hU;have b4:Yd (U<w.heap.size):=hU.lt;have a8:=zH (ax w (.cells #[.int .i64 t,.int .i64 E,.string D,.bool A,.slice a l m,.slice b q r,.slice d v C] 27) (.cells #[.int .i64 S,.int .i64 Z,.string Y,.bool V,.slice F J O,.slice G P Q,.slice I T X] 27));have e7:Yd (ah ((w.alloc (.cells #[.int .i64 t,.int .i64 E,.string D,.bool A,.slice a l m,.slice b q r,.slice d v C] 27)).alloc (.cells #[.int .i64 S,.int .i64 Z,.string Y,.bool V,.slice F J O,.slice G P Q,.slice I T X] 27)) w.heap.size 27 (zX t E D A a l m b q r d v C).toArray):=(ah.new w _ _).alloc _;have e8:Yd (ah ((w.alloc (.cells #[.int .i64 t,.int .i64 E,.string D,.bool A,.slice a l m,.slice b q r,.slice d v C] 27)).alloc (.cells #[.int .i64 S,.int .i64 Z,.string Y,.bool V,.slice F J O,.slice G P Q,.slice I T X] 27)) (w.heap.size+1) 27 (zX S Z Y V F J O G P Q I T X).toArray):=by
  have:=ah.new (w.alloc (.cells #[.int .i64 t,.int .i64 E,.string D,.bool A,.slice a l m,.slice b q r,.slice d v C] 27)) 27 #[.int .i64 S,.int .i64 Z,.string Y,.bool V,.slice F J O,.slice G P Q,.slice I T X];rw[show (w.alloc (.cells #[.int .i64 t,.int .i64 E,.string D,.bool A,.slice a l m,.slice b q r,.slice d v C] 27)).heap.size=w.heap.size+1 by simp]at this;exact this
 have c2:=zH (h7.o.to a8.o);have u2:=c2.o.cell 2;have u3:=c2.o.cell 3;simp only[L3]at u2 u3;clear hx hy f7 g0 hL f6 hB hN hU;go_enter func85,ntmps85;have j4:∃ b0:Bool,(b0=true->N=.pointer none/\M=.map none/\Mt=[])/\(b0=false->∃ (p m1 m2 md:Nat) (Ts:List Tm) (n:Nat) (g:Value->Option Value),N=.pointer (some ⟨p,0,none⟩)/\M=.map (some md)/\(B<=m1/\B<=m2/\B<=md)/\¬KN m1 m2 md/\aB f L w p m1 m2 Ts/\aE iL w md n g/\jH g Ts Mt):=by
  rcases h0.o with h|h
  ·exact⟨true,fun _=>h,fun h=>by cases h⟩
  ·exact⟨false,fun h=>(by cases h),fun _=>h⟩
 obtain⟨b0,f4,f5⟩:=j4;have e3:=zH f4;have e4:=zH f5;clear f4 f5
 go_upto_region 1 with fail
 go_cut [13] (fun j6 wx=>j6=.bool b0/\((w.alloc (.cells #[.int .i64 t,.int .i64 E,.string D,.bool A,.slice a l m,.slice b q r,.slice d v C] 27)).alloc (.cells #[.int .i64 S,.int .i64 Z,.string Y,.bool V,.slice F J O,.slice G P Q,.slice I T X] 27))=wx)
 case first=>
  cases b0 with
  |true=>
   obtain⟨rfl,rfl,rfl⟩:=e3.o (by trivial);go_wp2_with fail
   go_meet
   case rel=>exact⟨rfl,rfl⟩
  |false=>
   obtain⟨p,m1,m2,md,Ts,n,g,rfl,rfl,j5⟩:=e4.o (by trivial);clear j5;go_wp2_with fail
   go_meet
   case rel=>exact⟨rfl,rfl⟩
 case rest=>
 obtain⟨rfl,rfl⟩:=hcut
 go_upto_if 13 with fail
 go_cut [] (fun wx=>∃ (y2:World) (p md m1 m2:Nat) (Ts:List Tm) (n:Nat) (g:Value->Option Value),y2=wx/\Yd (GT och B h U st p md m1 m2 f L (zX t E D A a l m b q r d v C).toArray (zX S Z Y V F J O G P Q I T X).toArray w n g Ts y2)/\Yd (B<=y2.heap.size/\B<=m1/\B<=m2/\B<=md)/\Yd (jH g Ts Mt))
 case first=>
  cases b0 with
  |true=>
   obtain⟨rfl,rfl,rfl⟩:=e3.o (by trivial);go_wp2_with fail;refine (kJ _).mono ?_;rintro e w1 ⟨rfl,d4⟩;have e2:Yd (aB f L w1 (((w.alloc (.cells #[.int .i64 t,.int .i64 E,.string D,.bool A,.slice a l m,.slice b q r,.slice d v C] 27)).alloc (.cells #[.int .i64 S,.int .i64 Z,.string Y,.bool V,.slice F J O,.slice G P Q,.slice I T X] 27)).heap.size+2) ((w.alloc (.cells #[.int .i64 t,.int .i64 E,.string D,.bool A,.slice a l m,.slice b q r,.slice d v C] 27)).alloc (.cells #[.int .i64 S,.int .i64 Z,.string Y,.bool V,.slice F J O,.slice G P Q,.slice I T X] 27)).heap.size (((w.alloc (.cells #[.int .i64 t,.int .i64 E,.string D,.bool A,.slice a l m,.slice b q r,.slice d v C] 27)).alloc (.cells #[.int .i64 S,.int .i64 Z,.string Y,.bool V,.slice F J O,.slice G P Q,.slice I T X] 27)).heap.size+1) []):=by rw[d4];exact aB.new f L _
   have hb:Below ((w.alloc (.cells #[.int .i64 t,.int .i64 E,.string D,.bool A,.slice a l m,.slice b q r,.slice d v C] 27)).alloc (.cells #[.int .i64 S,.int .i64 Z,.string Y,.bool V,.slice F J O,.slice G P Q,.slice I T X] 27)).heap.size ((w.alloc (.cells #[.int .i64 t,.int .i64 E,.string D,.bool A,.slice a l m,.slice b q r,.slice d v C] 27)).alloc (.cells #[.int .i64 S,.int .i64 Z,.string Y,.bool V,.slice F J O,.slice G P Q,.slice I T X] 27)) w1:=by rw[d4];exact (ax _ _ _).alloc (by simp) _
   clear d4;have h8:=zH (c2.o.to hb);have h5:=zH (e7.o.to hb);have h6:=zH (e8.o.to hb);have c3:=zH (a8.o.trans (hb.mono a8.o.size));have h4:Yd (((w.alloc (.cells #[.int .i64 t,.int .i64 E,.string D,.bool A,.slice a l m,.slice b q r,.slice d v C] 27)).alloc (.cells #[.int .i64 S,.int .i64 Z,.string Y,.bool V,.slice F J O,.slice G P Q,.slice I T X] 27)).heap.size=w.heap.size+2/\w.heap.size+4<=w1.heap.size):=by
    have h1:((w.alloc (.cells #[.int .i64 t,.int .i64 E,.string D,.bool A,.slice a l m,.slice b q r,.slice d v C] 27)).alloc (.cells #[.int .i64 S,.int .i64 Z,.string Y,.bool V,.slice F J O,.slice G P Q,.slice I T X] 27)).heap.size=w.heap.size+2:=by simp
    refine⟨h1,?_⟩;obtain⟨_,h2,_⟩:=e2.o.form;obtain⟨_,_,h3,_⟩:=h2.is;have:=an h3;omega
   generalize ((w.alloc (.cells #[.int .i64 t,.int .i64 E,.string D,.bool A,.slice a l m,.slice b q r,.slice d v C] 27)).alloc (.cells #[.int .i64 S,.int .i64 Z,.string Y,.bool V,.slice F J O,.slice G P Q,.slice I T X] 27))=wA at*;clear hb u2 u3;have b3:=zH (ae w1 (.map #[] 0));have b1:=zH (h8.o.to b3.o);have u2:=b1.o.cell 2;have u3:=b1.o.cell 3;simp only[L3]at u2 u3;have z2:=b1.o.frozen 2;have z3:=b1.o.frozen 3;go_wp2_with fail;have e9:=(b1.o.set_ 2 (.pointer (some ⟨wA.heap.size+2,0,none⟩))).set_ 3 (.map (some w1.heap.size));simp only[L1]at e9;have a4:aD [some 106] (w1.alloc (.map #[] 0)) (((w1.alloc (.map #[] 0)).setCell ⟨U,2,none⟩ (.pointer (some ⟨wA.heap.size+2,0,none⟩))).setCell ⟨U,3,none⟩ (.map (some w1.heap.size))):=((aD.refl _ _).setCell (p:=⟨U,2,none⟩) b1.o (by decide) _).setCell (p:=⟨U,3,none⟩) (b1.o.set_ 2 (.pointer (some ⟨wA.heap.size+2,0,none⟩))) (by decide) _;have d8:Below B w (((w1.alloc (.map #[] 0)).setCell ⟨U,2,none⟩ (.pointer (some ⟨wA.heap.size+2,0,none⟩))).setCell ⟨U,3,none⟩ (.map (some w1.heap.size))):=(((c3.o.trans (b3.o.mono c3.o.size)).mono (by have:=HB.o;have:=b4.o;omega)).setCell (p:=⟨U,2,none⟩) HB.o _).setCell (p:=⟨U,3,none⟩) HB.o _;have g7:(w1.alloc (.map #[] 0)).heap[w1.heap.size]?=some (.map #[] 0):=heap_alloc_new w1 _;have k7:=h4.o;have k4:=HB.o;have k5:=b4.o;have k8:=d8.size
   go_meet
   case rel=>exact⟨_,_,w1.heap.size,_,_,[],0,fun _=>none,rfl,⟨(e2.o.below b3.o).frT a4 (by decide) (by decide) (by decide),e9,(h5.o.to b3.o).frT a4 (by decide),(h6.o.to b3.o).frT a4 (by decide),.empty (c:=0) (a4 _ _ g7 (eE.map (by decide))),(fun e=>by rcases e with e|e<;>omega),(aD.of_below (c3.o.trans (b3.o.mono c3.o.size))).trans (a4.mono (by decide)),d8⟩,⟨by omega,by omega,by omega,by omega⟩,⟨fun k x h=>(by cases h),fun i j h=>(by cases h),fun x y h=>(by cases h)⟩⟩
  |false=>
   obtain⟨p,m1,m2,md,Ts,n,g,rfl,rfl,i2,j0,b7,j3,hrel⟩:=e4.o (by trivial);go_wp2_with fail
   go_meet
   case rel=>exact⟨_,p,md,m1,m2,Ts,n,g,rfl,⟨b7.below a8.o,c2.o,e7.o,e8.o,j3.keptK (p:=fun _=>False) (.of_below a8.o) id,j0,aD.of_below a8.o,a8.o.mono (by have:=HB.o;have:=b4.o;omega)⟩,⟨zC (by have:=HB.o;have:=b4.o;omega) a8.o.size,i2⟩,hrel⟩
 case rest=>
  obtain⟨y2,p,md,m1,m2,Ts,n,g,rfl,c7,a1,g8⟩:=hcut;have e5:Yd (∀ (Tz:List Tm) (W:World),GT och B h U st p md m1 m2 f L (zX t E D A a l m b q r d v C).toArray (zX S Z Y V F J O G P Q I T X).toArray w n g Tz W->cT (PT eo W0) w W/\∀ k,PT eo W0 k->¬KN m1 m2 k):=fun Tz W g=>by
   have hs:cT (PT eo W0) W0 W:=PT.stay e6.o (g.fr.mono (by decide)) g.be.size;refine⟨e6.o.of_fr (g.fr.mono (by decide)) g.be.size,fun k hk e=>?_⟩;obtain⟨o,h1,h2⟩:=hk;have h3:=(hs.2 k ⟨o,h1,h2⟩ (an h1)).trans h1;obtain⟨_,_,a2,_⟩:=g.ns.node;obtain⟨_,a3,_⟩:=g.ns.form;rcases e with rfl|rfl
   ·obtain⟨_,_,e,_⟩:=a2.is;rw[e]at h3;exact h2.2 (by decide) _ _ (zI h3).symm
   ·obtain⟨_,_,e,_⟩:=a3.is;rw[e]at h3;exact h2.2 (by decide) _ _ (zI h3).symm
  have d7:Yd (∀ (Tz:List Tm) (W:World),B<=W.heap.size->GT och B h U st p md m1 m2 f L (zX t E D A a l m b q r d v C).toArray (zX S Z Y V F J O G P Q I T X).toArray w n g Tz W->Calls prog 116 #[zY p,.agg (zX t E D A a l m b q r d v C).toArray] W fun e w'=>∃ (i:Nat) (Us:List Tm),e=.returned (.int .i64 (i:Int))/\Yd (i<=L.length/\(Tz++Us)[i]?=some x)/\Yd (GT och B h U st p md m1 m2 f L (zX t E D A a l m b q r d v C).toArray (zX S Z Y V F J O G P Q I T X).toArray w n g (Tz++Us) w'/\B<=w'.heap.size)/\Yd (aD [none] W w')/\(w'.cell? ⟨U,2,none⟩=some (.pointer (some ⟨p,0,none⟩))/\w'.cell? ⟨w.heap.size,0,none⟩=some (.int .i64 t)/\w'.cell? ⟨w.heap.size,1,none⟩=some (.int .i64 E)/\w'.cell? ⟨w.heap.size,2,none⟩=some (.string D)/\w'.cell? ⟨w.heap.size,3,none⟩=some (.bool A)/\w'.cell? ⟨w.heap.size,4,none⟩=some (.slice a l m)/\w'.cell? ⟨w.heap.size,5,none⟩=some (.slice b q r)/\w'.cell? ⟨w.heap.size,6,none⟩=some (.slice d v C)/\w'.cell? ⟨w.heap.size+1,0,none⟩=some (.int .i64 S)/\w'.cell? ⟨w.heap.size+1,1,none⟩=some (.int .i64 Z)/\w'.cell? ⟨w.heap.size+1,2,none⟩=some (.string Y)/\w'.cell? ⟨w.heap.size+1,3,none⟩=some (.bool V)/\w'.cell? ⟨w.heap.size+1,4,none⟩=some (.slice F J O)/\w'.cell? ⟨w.heap.size+1,5,none⟩=some (.slice G P Q)/\w'.cell? ⟨w.heap.size+1,6,none⟩=some (.slice I T X))):=fun Tz W b5 gg=>by
   obtain⟨h1,h2⟩:=e5.o Tz W gg;refine (vh h2 b8.o HX.o f0.o.1 W Tz h1 gg.ns).mono ?_;rintro e w' ⟨i,Us,rfl,hi,b7,hg,hk⟩;have b6:=gg.name hk b7 ⟨a1.o.2.1,a1.o.2.2.1⟩ b5;exact⟨i,Us,rfl,⟨hi,hg⟩,⟨b6,zC b5 hk.size⟩,gg.ns.frame hk (by decide),b6.cells⟩
  have c6:Yd (∀ (Tz:List Tm) (W:World),B<=W.heap.size->GT och B h U st p md m1 m2 f L (zX t E D A a l m b q r d v C).toArray (zX S Z Y V F J O G P Q I T X).toArray w n g Tz W->Calls prog 116 #[zY p,.agg (zX S Z Y V F J O G P Q I T X).toArray] W fun e w'=>∃ (i:Nat) (Us:List Tm),e=.returned (.int .i64 (i:Int))/\Yd (i<=L.length/\(Tz++Us)[i]?=some y)/\Yd (GT och B h U st p md m1 m2 f L (zX t E D A a l m b q r d v C).toArray (zX S Z Y V F J O G P Q I T X).toArray w n g (Tz++Us) w'/\B<=w'.heap.size)/\Yd (aD [none] W w')/\(w'.cell? ⟨U,2,none⟩=some (.pointer (some ⟨p,0,none⟩))/\w'.cell? ⟨w.heap.size,0,none⟩=some (.int .i64 t)/\w'.cell? ⟨w.heap.size,1,none⟩=some (.int .i64 E)/\w'.cell? ⟨w.heap.size,2,none⟩=some (.string D)/\w'.cell? ⟨w.heap.size,3,none⟩=some (.bool A)/\w'.cell? ⟨w.heap.size,4,none⟩=some (.slice a l m)/\w'.cell? ⟨w.heap.size,5,none⟩=some (.slice b q r)/\w'.cell? ⟨w.heap.size,6,none⟩=some (.slice d v C)/\w'.cell? ⟨w.heap.size+1,0,none⟩=some (.int .i64 S)/\w'.cell? ⟨w.heap.size+1,1,none⟩=some (.int .i64 Z)/\w'.cell? ⟨w.heap.size+1,2,none⟩=some (.string Y)/\w'.cell? ⟨w.heap.size+1,3,none⟩=some (.bool V)/\w'.cell? ⟨w.heap.size+1,4,none⟩=some (.slice F J O)/\w'.cell? ⟨w.heap.size+1,5,none⟩=some (.slice G P Q)/\w'.cell? ⟨w.heap.size+1,6,none⟩=some (.slice I T X))):=fun Tz W b5 gg=>by
   obtain⟨h1,h2⟩:=e5.o Tz W gg;refine (vh h2 b8.o HY.o f0.o.2 W Tz h1 gg.ns).mono ?_;rintro e w' ⟨i,Us,rfl,hi,b7,hg,hk⟩;have b6:=gg.name hk b7 ⟨a1.o.2.1,a1.o.2.2.1⟩ b5;exact⟨i,Us,rfl,⟨hi,hg⟩,⟨b6,zC b5 hk.size⟩,gg.ns.frame hk (by decide),b6.cells⟩
  have c9:Yd (GT och B h U st p md m1 m2 f L (zX t E D A a l m b q r d v C).toArray (zX S Z Y V F J O G P Q I T X).toArray w n g Ts y2.drew/\B<=y2.drew.heap.size):=⟨c7.o.below a1.o.1 zB.drew,a1.o.1⟩;have d0:Yd (GT och B h U st p md m1 m2 f L (zX t E D A a l m b q r d v C).toArray (zX S Z Y V F J O G P Q I T X).toArray w n g Ts (y2.alloc (.cells #[.int .i64 0,.int .i64 0] 134)).drew/\B<=(y2.alloc (.cells #[.int .i64 0,.int .i64 0] 134)).drew.heap.size):=⟨c7.o.below a1.o.1 (ae y2 _).drew,zC a1.o.1 (ae y2 _).drew.size⟩;have g6:Yd (ah (y2.alloc (.cells #[.int .i64 0,.int .i64 0] 134)).drew y2.heap.size 134 #[.int .i64 0,.int .i64 0]):=(ah.new y2 _ _).drew;have d6:Yd (B<=w.heap.size):=zC HB.o (Nat.le_of_lt b4.o);have h9:=c9.o.1.cells;have i0:=d0.o.1.cells;go_wp2_with fail
  go_region_held3 (fun w'=>w'.cell? ⟨U,2,none⟩=some (.pointer (some ⟨p,0,none⟩))/\w'.cell? ⟨w.heap.size,0,none⟩=some (.int .i64 t)/\w'.cell? ⟨w.heap.size,1,none⟩=some (.int .i64 E)/\w'.cell? ⟨w.heap.size,2,none⟩=some (.string D)/\w'.cell? ⟨w.heap.size,3,none⟩=some (.bool A)/\w'.cell? ⟨w.heap.size,4,none⟩=some (.slice a l m)/\w'.cell? ⟨w.heap.size,5,none⟩=some (.slice b q r)/\w'.cell? ⟨w.heap.size,6,none⟩=some (.slice d v C)/\w'.cell? ⟨w.heap.size+1,0,none⟩=some (.int .i64 S)/\w'.cell? ⟨w.heap.size+1,1,none⟩=some (.int .i64 Z)/\w'.cell? ⟨w.heap.size+1,2,none⟩=some (.string Y)/\w'.cell? ⟨w.heap.size+1,3,none⟩=some (.bool V)/\w'.cell? ⟨w.heap.size+1,4,none⟩=some (.slice F J O)/\w'.cell? ⟨w.heap.size+1,5,none⟩=some (.slice G P Q)/\w'.cell? ⟨w.heap.size+1,6,none⟩=some (.slice I T X))
   (with_reducible assumption)
   (first
    |(go_at_call 116;(with_reducible refine (d7.o Ts y2.drew c9.o.2 c9.o.1).mono ?_);rintro e y3 ⟨i3,b2,rfl,d3,a7,e0,i1⟩;have c8:Yd (GT och B h U st p md m1 m2 f L (zX t E D A a l m b q r d v C).toArray (zX S Z Y V F J O G P Q I T X).toArray w n g (Ts++b2) (y3.alloc (.cells #[.int .i64 0,.int .i64 0] 134))/\B<=(y3.alloc (.cells #[.int .i64 0,.int .i64 0] 134)).heap.size):=⟨a7.o.1.below a7.o.2 (ae y3 _),zC a7.o.2 (ae y3 _).size⟩;have d1:Yd (ah (y3.alloc (.cells #[.int .i64 0,.int .i64 0] 134)) y3.heap.size 134 #[.int .i64 0,.int .i64 0]):=ah.new y3 _ _;have j7:=c8.o.1.cells;have d2:Yd (w.heap.size<=y3.heap.size):=a7.o.1.be.size)
    |(go_at_call 116;(with_reducible refine (d7.o Ts (y2.alloc (.cells #[.int .i64 0,.int .i64 0] 134)).drew d0.o.2 d0.o.1).mono ?_);rintro e y3 ⟨i3,b2,rfl,d3,a7,e0,i1⟩;have d1:=zH (g6.o.frT e0.o (by decide));have d2:Yd (w.heap.size<=y2.heap.size):=c7.o.be.size)
    |(go_at_call 116;(with_reducible refine (c6.o (Ts++b2) y3 a7.o.2 a7.o.1).mono ?_);rintro e y4 ⟨i4,c4,rfl,c5,a5,a4,f1⟩;have a0:=zH (d1.o.frT a4.o (by decide));have a6:=zH (GT.key a5.o a0.o d2.o d6.o (.int .i64 (i3:Int)) (.int .i64 (i4:Int)));have f2:=a6.o.1.1.cells;have c0:=a0.o.cell 0;have c1:=a0.o.cell 1;simp only[L3]at c0 c1;have z0:=a0.o.frozen 0;have z1:=a0.o.frozen 1)
    |(go_at_call 116;(with_reducible refine (c6.o (Ts++b2) y3 a7.o.2 a7.o.1).mono ?_);rintro e y4 ⟨i4,c4,rfl,c5,a5,a4,f1⟩;have g5:Yd (GT och B h U st p md m1 m2 f L (zX t E D A a l m b q r d v C).toArray (zX S Z Y V F J O G P Q I T X).toArray w n g (Ts++b2++c4) (y4.alloc (.cells #[.int .i64 0,.int .i64 0] 134))/\B<=(y4.alloc (.cells #[.int .i64 0,.int .i64 0] 134)).heap.size):=⟨a5.o.1.below a5.o.2 (ae y4 _),zC a5.o.2 (ae y4 _).size⟩;have k3:=g5.o.1.cells;have a6:Yd ((GT och B h U st p md m1 m2 f L (zX t E D A a l m b q r d v C).toArray (zX S Z Y V F J O G P Q I T X).toArray w n g (Ts++b2++c4) (y4.alloc (.cells #[.int .i64 (i3:Int),.int .i64 (i4:Int)] 134))/\B<=(y4.alloc (.cells #[.int .i64 (i3:Int),.int .i64 (i4:Int)] 134)).heap.size)/\ah (y4.alloc (.cells #[.int .i64 (i3:Int),.int .i64 (i4:Int)] 134)) y4.heap.size 134 #[.int .i64 (i3:Int),.int .i64 (i4:Int)]):=⟨⟨a5.o.1.below a5.o.2 (ae y4 _),zC a5.o.2 (ae y4 _).size⟩,ah.new y4 _ _⟩;have f2:=a6.o.1.1.cells)
    |(go_at_call 116;(with_reducible refine (c6.o (Ts++b2) (y3.alloc (.cells #[.int .i64 0,.int .i64 0] 134)) c8.o.2 c8.o.1).mono ?_);rintro e y4 ⟨i4,c4,rfl,c5,a5,a4,f1⟩;have a0:=zH (d1.o.frT a4.o (by decide));have a6:=zH (GT.key a5.o a0.o d2.o d6.o (.int .i64 (i3:Int)) (.int .i64 (i4:Int)));have f2:=a6.o.1.1.cells;have c0:=a0.o.cell 0;have c1:=a0.o.cell 1;simp only[L3]at c0 c1;have z0:=a0.o.frozen 0;have z1:=a0.o.frozen 1))
  all_goals
   clear h9 i0;have u3:=a6.o.1.1.u.cell 3;have k0:=a6.o.2.cell 0;have k1:=a6.o.2.cell 1;simp only[L3]at u3 k0 k1;obtain⟨es,cm,j2,j1,f3⟩:=GT.look g8.o (by have:=a6.o.1.1;rw[zJ]at this;exact this) b8.o.1 (by have h1:=d3.out;refine⟨h1.1,?_⟩;rw[<-zJ,List.getElem?_append_left (zK h1.2).1];exact h1.2) (by have h1:=c5.out;rw[zJ]at h1;exact h1);have g9:=zH f3;have e1:=zH (fun W (hb:Below _ _ W)=>GT.toK a6.o hb);clear f3;go_wp2_with fail
   go_quiet (fail)
   clear u3 k0 k1 j2 j1;go_wp2_with fail;generalize f8:World.drewN _ _=y6;have a9:=e1.o y6 (by rw[<-f8];exact lj _);clear f8;obtain⟨z,hr,g4,d5,⟨n',g3⟩,g2,g1⟩:=GT.put (a9.1.1.below a9.1.2 zB.drew) a9.1.2 a1.o.2.2.2 b8.o.1 d3.out.1 c5.out.1;have u3:=a9.1.1.u.cell 3;have k0:=a9.2.cell 0;have k1:=a9.2.cell 1;simp only[L3]at u3 k0 k1;rw[zJ]at d5;have HZ:Yd (AS och z U h (.pointer (some ⟨p,0,none⟩)) (.map (some md)) st/\oP B f L z (.pointer (some ⟨p,0,none⟩)) (.map (some md)) (wO Mt x y)/\aD [some 106,none] w z/\Below B w z):=⟨g4,.inr ⟨p,m1,m2,md,_,_,_,rfl,rfl,a1.o.2,a9.1.1.n1,d5,g3,g9.o⟩,g2,g1⟩;clear g4 d5 g3 g2 g1 e1 a9
   go_region
  all_goals
   go_wp2_with fail;go_ret;exact⟨_,_,rfl,HZ.o⟩
noncomputable def dJ (och:Bool) (b:Int->Option Tm):Tm->Tm->Bool
 |.mk k v s n args,.mk k2 v2 s2 n2 args2=>if k=1 then (if k2=1 then true else !(och&&df b v (.mk k2 v2 s2 n2 args2))) else if k2=1 then !(och&&df b v2 (.mk k v s n args)) else (Tm.mk k v s n args).hd (.mk k2 v2 s2 n2 args2)
theorem gd (och:Bool) (b:Int->Option Tm) (k v:Int) (s:ByteArray) (n:LN) (args:List Tm) (k2 v2:Int) (s2:ByteArray) (n2:LN) (args2:List Tm):dJ och b (.mk k v s n args) (.mk k2 v2 s2 n2 args2)=if k=1 then (if k2=1 then true else !(och&&df b v (.mk k2 v2 s2 n2 args2))) else if k2=1 then !(och&&df b v2 (.mk k v s n args)) else (Tm.mk k v s n args).hd (.mk k2 v2 s2 n2 args2):=rfl
def qu (och:Bool) (b:Int->Option Tm) (x y:Tm) (Mt:List (Tm×Tm)) (b':Int->Option Tm) (N Mt':List (Tm×Tm)):Prop:=
 (b'=b/\N=[]/\Mt'=Mt/\(x=y\/(x,y)∈Mt\/((∀ v,x≠.var v)/\x.args=[]/\x.hd y=true)))\/
 (∃ v t,b v=none/\((x=.var v/\y=t)\/(x=t/\y=.var v))/\(och=true->¬eB b v t)/\(∀ u,t=.var u->u<v)/\b'=upd b v t/\N=[]/\Mt'=Mt)\/
 ((∀ v,x≠.var v)/\x.hd y=true/\(x,y)∉Mt/\b'=b/\N=x.args.zip y.args/\Mt'=(x,y)::Mt)
inductive DE (och:Bool):(Int->Option Tm)->List (Tm×Tm)->List (Tm×Tm)->(Int->Option Tm)->List (Tm×Tm)->List (Tm×Tm)->Prop
 |mk {b b':Int->Option Tm} {p q x y:Tm} {S Mt N Mt':List (Tm×Tm)} (hx:dK b p x) (hy:dK b q y) (fx:x.fine) (fy:y.fine) (h:qu och b x y Mt b' N Mt'):DE och b ((p,q)::S) Mt b' (N++S) Mt'
def Dz (och:Bool) (b:Int->Option Tm) (p q:Tm):Prop:=∃ x y,dK b p x/\dK b q y/\x.fine/\y.fine/\(∀ v,x=.var v->b v=none)/\(∀ v,y=.var v->b v=none)/\dJ och b x y=false
theorem CS {x y:Tm} (h:x.hd y=true):x.args.length=y.args.length:=by
 obtain⟨k,v,e,m,b⟩:=x;obtain⟨k2,f,c,d,a⟩:=y;rw[Tm.hd,decide_eq_true_eq]at h;exact h.2.2.1
theorem dm.stp {E:Tm×Tm} {b n:Int->Option Tm} {S Mt m c:List (Tm×Tm)} (h:dm E b S Mt) (r:DE true b S Mt n m c):dm E n m c:=by
 cases r with
 |mk e f g i l=>
  rcases l with ⟨rfl,rfl,rfl,a⟩|⟨v,t,p,q,o,d,rfl,rfl,rfl⟩|⟨a,j,k,rfl,rfl,rfl⟩
  ·refine h.skip e f ?_;rcases a with a|a|⟨a,j,k⟩
   ·exact .inl a
   ·exact .inr (.inl a)
   ·refine .inr (.inr fun s=>(yZ g i a k s).2 ?_);have d:=CS k;rw[j]at d ⊢;rw[zF d.symm]
  ·rcases q with ⟨rfl,rfl⟩|⟨rfl,rfl⟩
   ·exact h.bind p (.inl ⟨e,f⟩) (Tm.cn_fine _ i) (o rfl) d
   ·exact h.bind p (.inr ⟨e,f⟩) (Tm.cn_fine _ g) (o rfl) d
  ·exact h.push e f a g i j
theorem dm.cls {E:Tm×Tm} {b:Int->Option Tm} {S Mt:List (Tm×Tm)} {p q:Tm} (h:dm E b ((p,q)::S) Mt) (B:Dz true b p q) (s:Int->Tm):E.1.sb s≠E.2.sb s:=by
 obtain⟨x,y,o,r,j,l,F,G,d⟩:=B;obtain⟨k,v,D,n,c⟩:=x;obtain⟨k2,w,t,C,f⟩:=y;have i:∀ {k v:Int} {s:ByteArray} {n:LN} {c:List Tm},k≠1->∀ u,Tm.mk k v s n c≠.var u:=fun g u e=>g (aS e).1;rw[gd]at d;by_cases g:k=1
 ·rw[if_pos g]at d;have z:=aK j g;by_cases a:k2=1
  ·rw[if_pos a]at d;cases d
  ·rw[if_neg a,Bool.true_and]at d;have m:eB b v (.mk k2 w t C f):=fW.1 (by simpa using d);exact h.loop (.inl ⟨z▸o,r⟩) (i a) (Tm.cn_fine _ l) m s
 ·rw[if_neg g]at d;by_cases a:k2=1
  ·rw[if_pos a,Bool.true_and]at d;have A:=aK l a;have m:eB b w (.mk k v D n c):=fW.1 (by simpa using d);exact h.loop (.inr ⟨o,A▸r⟩) (i g) (Tm.cn_fine _ j) m s
  ·rw[if_neg a]at d;exact h.clash o r (i g) (i a) j l d s
inductive jJ (P:Nat->Prop) (f:Nat->Option Tm) (w:World):List Value->List (Tm×Tm)->Prop
 |nil:jJ P f w [] []
 |cons {zs:List Value} {S:List (Tm×Tm)} {a b:Tm} {ca cb:List Value} (h:jJ P f w zs S) (ha:cU P f w a ca) (hb:cU P f w b cb):jJ P f w (zs++(ca++cb)) ((a,b)::S)
theorem jJ.stay {P:Nat->Prop} {f:Nat->Option Tm} {w w':World} {b:List Value} {S:List (Tm×Tm)} (h:jJ P f w b S) (a:cT P w w'):jJ P f w' b S:=by
 induction h with
 |nil=>exact .nil
 |cons _ c d e=>exact .cons e (c.stay a) (d.stay a)
def xS (nm:Nat) (b:Int->Option Tm) (m:Nat) (ys:List Value):Prop:=∃ vs:List Nat,vs.length=m/\vs.Nodup/\(∀ v∈vs,v<nm/\(b v).isSome=true)/\ys=(vs.map fun v:Nat=>Value.int .i64 (v:Int)::zc).flatten
theorem xS.nil (nm:Nat) (b:Int->Option Tm):xS nm b 0 []:=⟨[],rfl,List.nodup_nil,fun v h=>(by cases h),rfl⟩
theorem xS.le {nm m:Nat} {b:Int->Option Tm} {e:List Value} (h:xS nm b m e):m<=nm:=by
 obtain⟨f,rfl,a,c,_⟩:=h;exact rS a fun v d=>(c v d).1
theorem jA (b:Int->Option Tm) (v:Int) (t:Tm):upd b v t v=some t:=by unfold upd;rw[if_pos rfl]
theorem qe {b:Int->Option Tm} {v u:Int} {t:Tm} (h:u≠v):upd b v t u=b u:=by unfold upd;rw[if_neg h]
theorem xS.push {nm m:Nat} {b:Int->Option Tm} {k:List Value} (h:xS nm b m k) {v:Nat} (q:v<nm) (o:b v=none) (t:Tm):xS nm (upd b v t) (m+1) (k++(Value.int .i64 (v:Int)::zc)):=by
 obtain⟨j,rfl,l,f,rfl⟩:=h;have i:v∉j:=fun p=>by have:=(f v p).2;rw[o]at this;cases this
 refine⟨j++[v],by simp,?_,fun u d=>?_,by simp⟩
 ·rw[List.nodup_append];exact⟨l,by simp,fun a n c g e=>by rw[List.mem_singleton]at g;subst g;subst e;exact i n⟩
 ·rcases List.mem_append.1 d with d|d
  ·refine⟨(f u d).1,?_⟩;rw[qe (by have:u≠v:=fun e=>i (e▸d);omega)];exact (f u d).2
  ·rw[List.mem_singleton]at d;subst d;rw[jA];exact⟨q,rfl⟩
structure UV (och:Bool) (nm B h U G c:Nat) (f:Nat->Option Tm) (L:List Tm) (W0:World) (b:Int->Option Tm) (S Mt:List (Tm×Tm)) (W:World):Prop where
 ex:∃ (N M st tv:Value) (xs ys zs:List Value) (m:Nat),dL nm W B h G c tv xs m ys/\xS nm b m ys/\qm (PT eo W0) f W nm xs b/\AS och W U h N M st/\oP B f L W N M Mt/\W.ownsRow B 101 14 st S.length zs/\jJ (PT eo W0) f W zs S
 stay:cT (PT eo W0) W0 W
 fr:aD eo W0 W
 be:Below B W0 W
 leU:B<=U
 sz:B<=W.heap.size
theorem UV.below {och:Bool} {nm B h U G c:Nat} {f:Nat->Option Tm} {L:List Tm} {d:World} {b:Int->Option Tm} {S Mt:List (Tm×Tm)} {w:World} (v:UV och nm B h U G c f L d b S Mt w) {w':World} (a:zZ w w'):UV och nm B h U G c f L d b S Mt w':=by
 obtain⟨⟨N,M,y,z,A,C,D,m,n,o,p,q,r,t,x⟩,i,j,k,l,g⟩:=v;have e:cT (PT eo d) w w':=.of_below a;exact⟨⟨N,M,y,z,A,C,D,m,n.below a,o,p.stay e,ah.to q a,r.frT (ts:=[]) (aD.of_below a) (by simp) (by simp) (by simp),ay (ts:=[]) t (aD.of_below a) (by simp),x.stay e⟩,i.trans e,j.trans (aD.of_below a),k.trans (a.mono g),l,zC g a.size⟩
theorem UV.drew {och:Bool} {nm B h U G c:Nat} {f:Nat->Option Tm} {L:List Tm} {a:World} {b:Int->Option Tm} {S Mt:List (Tm×Tm)} {w:World} (v:UV och nm B h U G c f L a b S Mt w):UV och nm B h U G c f L a b S Mt w.drew:=v.below zB.drew
theorem zu {b:Int->Option Tm} {u:Int} {k v:Int} {s:ByteArray} {n:LN} {args:List Tm} (d:k≠1) (c:args=[]):¬eB b u (.mk k v s n args):=by
 subst c;have a:∀ u,¬(Tm.mk k v s n []).occ u:=fun u h=>by
  rw[Tm.occ]at h;rcases h with h|h
  ·exact d h.1
  ·rw[dA]at h;exact h.2
 intro h;cases h with
 |here h=>exact a _ h
 |there h _ _=>exact a _ h
theorem lV {b:Int->Option Tm} {u v:Int} (e:b v=none) (a:u≠v):¬eB b u (.var v):=by
 have d:∀ z,(Tm.var v).occ z->z=v:=fun z h=>by
  rw[Tm.var,Tm.occ]at h;rcases h with h|h
  ·exact h.2.symm
  ·exact absurd rfl h.1
 intro h;cases h with
 |here h=>exact a (d _ h)
 |there h c _=>rw[d _ h,e]at c;cases c
theorem fN {k v:Int} {s:ByteArray} {n:LN} {args:List Tm} (h:(Tm.mk k v s n args).fine) (a:k≠5):args=[]:=by
 rw[Tm.fine]at h;refine zF ?_;rcases al h.2.1 with ⟨_,_,_,_,h⟩|⟨_,_,_,_,h|h|h|h⟩<;>omega
theorem Dx {q:Nat} {u:Value} {xs:List Value} {o:Nat} (a:∀ q,q<9->xs[o+q]?=zc[q]?) (h:zc[q]?=some u):xs[o+q]?=some u:=(a q (by have:=(zK h).1;exact this)).trans h
theorem oS {och:Bool} {nm B h U G c:Nat} {f:Nat->Option Tm} {L:List Tm} {o:World} {b:Int->Option Tm} {S Mt:List (Tm×Tm)} {w:World} {Bl:List Nat} (hU:kg nm L) (A:nm<=1000000) (hW:kX L b) (hF:∀ c x,f c=some x->c∈Bl) (V:Bl.length<=1000000) (g:UV och nm B h U G c f L o b S Mt w) {a:Nat} (i:a<nm) (l:b a=none) {t:Tm} {ct:List Value} (ht:t∈L) (I:cU (PT eo o) f w t ct) (X:∀ u,t=.var u->b u=none/\u<a):
 Calls prog 83 #[.pointer (some ⟨U,0,none⟩),.int .i64 (a:Int),.agg ct.toArray] w fun e w'=>e=.returned (.bool (!(och&&df b a t)))/\((och&&df b a t)=true->UV och nm B h U G c f L o b S Mt w')/\((och&&df b a t)=false->UV och nm B h U G c f L o (upd b a t) S Mt w'):=by
 obtain⟨⟨N,M,st,tv,xs,ys,zs,m,E,Q,F,T,h5,h6,h7⟩,O,a2,a3,a4,P⟩:=g;have g:UV och nm B h U G c f L o b S Mt w:=⟨⟨N,M,st,tv,xs,ys,zs,m,E,Q,F,T,h5,h6,h7⟩,O,a2,a3,a4,P⟩;obtain⟨J,a0,ts,tn,tA,ta,tc,tB,td,te,tX,tl,tq,rfl⟩:=I.form;have hz:∀ q,q<9->xs[a*9+q]?=zc[q]?:=by
  rcases F.cell a i with ⟨_,h⟩|⟨x,cx,h,_⟩
  ·exact h
  ·rw[l]at h;cases h
 have D:(och&&decide (J=5)&&df b a t)=(och&&df b a t):=by
  by_cases Y:J=5
  ·rw[decide_eq_true Y,Bool.and_true]
  ·rw[decide_eq_false Y,Bool.and_false,Bool.false_and];have:df b a t=false:=ff (by
    obtain⟨k_,v_,s_,n_,a7,A_,B_,Ar,cp,cx,Z,r,_⟩:=I.inv;simp only[List.cons.injEq,Value.int.injEq,true_and]at r;obtain⟨rfl,_⟩:=r;subst Z;have n:=(hU.1.2 _ ht).1;by_cases y:J=1
    ·have e:=aK n y;rw[e];have:=X _ e;exact lV this.1 (by omega)
    ·exact zu y (fN n Y))
   rw[this,Bool.and_false]
 refine (yC nm B h G c m U och (df b a t) N M st tv xs ys a i false 0 0 ⟨#[]⟩ false none 0 0 none 0 0 none 0 0 J a0 ts tn tA ta tc tB td te tX tl tq (fun q u hq=>Dx hz hq) (zC Q.le A) w P E T fun _ _ W k=>?_).mono ?_
 ·exact wT i l (E.below k) (F.stay (.of_below k)) hU hW hF V A ht (I.stay (.of_below k))
 ·rintro e w' d;rw[D]at d;rcases d with ⟨C,rfl,p⟩|⟨C,rfl,⟨a6,hS⟩,n,p⟩
  ·exact⟨by rw[C];rfl,fun _=>g.below p,fun z=>by rw[C]at z;cases z⟩
  ·refine⟨by rw[C];rfl,fun z=>by (rw[C]at z;cases z),fun _=>?_⟩;have v:aD eo w w':=n.mono (by decide);have j:cT (PT eo o) w w':=O.of_fr v p.size;refine⟨⟨N,M,st,a6,_,_,zs,m+1,hS,Q.push i l t,(F.stay j).upd i (by have:=E.row.1;omega) (I.stay j),ah.frT T n (by decide),h5.frT n (by decide) (by decide) (by decide),ay h6 n (by decide),h7.stay j⟩,O.trans j,a2.trans v,a3.trans p,a4,zC P p.size⟩
theorem qm.attrs {P:Nat->Prop} {f:Nat->Option Tm} {w:World} {nm:Nat} {xs:List Value} {b:Int->Option Tm} (h:qm P f w nm xs b) {v:Nat} (c:v<nm):xs[v*9+8]?=some (.slice none 0 0):=by
 rcases h.cell v c with ⟨_,h⟩|⟨t,e,_,a,h⟩
 ·rw[h 8 (by omega)];rfl
 ·rw[h 8 (by omega)];obtain⟨m,d,q,o,tA,i,j,tB,k,l,g,n,p,rfl⟩:=a.form;rfl
theorem qh {och:Bool} {nm B h U G c:Nat} {f:Nat->Option Tm} {L:List Tm} {r:World} {b:Int->Option Tm} {S Mt:List (Tm×Tm)} {w:World} {Bl:List Nat} (I:kg nm L) (n:nm<=1000000) (J:kX L b) (F:∀ c x,f c=some x->c∈Bl) (k:Bl.length<=1000000) (g:UV och nm B h U G c f L r b S Mt w) {v u a d:Nat} (b1:min (v:Int) (u:Int)=(a:Int)) (a0:max (v:Int) (u:Int)=(d:Int)) (A:a<d) (j:d<nm) (i:b a=none) (l:b d=none) (P:Tm.var a∈L):
 Calls prog 82 #[.pointer (some ⟨U,0,none⟩),.int .i64 (v:Int),.int .i64 (u:Int)] w fun e w'=>e=.returned (.bool true)/\UV och nm B h U G c f L r (upd b d (.var a)) S Mt w':=by
 have V:=zH g;obtain⟨⟨N,M,st,tv,xs,ys,zs,m,o,h2,t,E,h5,h6,h7⟩,X,Y,Z,a4,a5⟩:=g;have u0:=ah.cell E 0;have D:=o.blk.cell 0;simp only[L3]at u0 D;have gl:w.cell? ⟨G,a*9+8,none⟩=some (.slice none 0 0):=o.cell (t.attrs (by omega));have gh:w.cell? ⟨G,d*9+8,none⟩=some (.slice none 0 0):=o.cell (t.attrs j);have a6:(0:Int)<=(a:Int):=by omega
 have a7:(a:Int)<(nm:Int):=by omega
 have a8:(0:Int)<=(d:Int):=by omega
 have a9:(d:Int)<(nm:Int):=by omega
 have p:Yd (∀ W,zZ w W->Calls prog 83 #[zY U,.int .i64 (d:Int),.agg (zX 1 (a:Int) ⟨#[]⟩ false none 0 0 none 0 0 none 0 0).toArray] W fun e w'=>e=.returned (.bool true)/\Yd (UV och nm B h U G c f L r (upd b d (.var a)) S Mt w')):=fun W y=>by
  refine (oS I n J F k (V.o.below y) j l P (.var (v:=(a:Int)) ⟨by omega,by omega⟩) fun z e=>by
   have:=iI e;subst this;exact⟨i,by omega⟩).mono ?_
  rintro e w' ⟨rfl,q1,Q⟩;have C:df b (d:Int) (.var a)=false:=ff (lV i (by omega));rw[C,Bool.and_false]at Q ⊢;exact⟨rfl,Q rfl⟩
 clear I n J F k o h2 t E h5 h6 h7 X Y Z a4 a5 i l P A j;go_enter func82,ntmps82;go_wp2_with fail;refine (du (a:Int) w).mono ?_;rintro e w1 ⟨rfl,O⟩;have q:=zH O;clear O u0 D gl gh;go_wp2_with fail;refine (p.o w1 q.o).mono ?_;rintro e w2 ⟨rfl,T⟩;go_wp2_with fail;go_ret;exact⟨rfl,T.o⟩
def uN (och:Bool) (nm B h U G c:Nat) (f:Nat->Option Tm) (L:List Tm) (W0:World) (b:Int->Option Tm) (S Mt:List (Tm×Tm)) (x y:Tm) (w':World):Prop:=
 ∃ (b':Int->Option Tm) (N Mt':List (Tm×Tm)),UV och nm B h U G c f L W0 b' (N++S) Mt' w'/\(dJ och b x y=true->qu och b x y Mt b' N Mt')
theorem kg.var {nm:Nat} {L:List Tm} (b:kg nm L) {x:Tm} (c:x∈L) {k v:Int} {s:ByteArray} {n:LN} {args:List Tm} (e:x=.mk k v s n args) (g:k=1):x=.var v/\∃ i:Nat,v=(i:Int)/\i<nm:=by
 have a:x=.var v:=by subst e;exact aK (b.1.2 _ c).1 g
 obtain⟨d,h⟩:=b.2 _ c v a;obtain⟨i,f⟩:=Int.eq_ofNat_of_zero_le d;exact⟨a,i,f,by omega⟩
theorem AF {och:Bool} {nm B h U G c:Nat} {f:Nat->Option Tm} {L:List Tm} {t:World} {b:Int->Option Tm} {S Mt:List (Tm×Tm)} {w:World} {Bl:List Nat} (C:kg nm L) (J:nm<=1000000) (D:kX L b) (A:∀ c x,f c=some x->c∈Bl) (y:Bl.length<=1000000) (g:UV och nm B h U G c f L t b S Mt w) {v u:Nat} (Y:v<nm) (X:u<nm) (d:b v=none) (a:b u=none) (n:Tm.var v∈L) (m:Tm.var u∈L) (xs:ByteArray) (xn:Bool) (Z:Option Addr) (xa xc:Nat) (xB:Option Addr) (xd xe:Nat) (xX:Option Addr) (xl xq:Nat) (ys:ByteArray) (yn:Bool) (yA:Option Addr) (ya yc:Nat) (yB:Option Addr) (yd ye:Nat) (yX:Option Addr) (yl yq:Nat):
 Calls prog 58 #[.pointer (some ⟨U,0,none⟩),.agg #[.int .i64 1,.int .i64 (v:Int),.string xs,.bool xn,.slice Z xa xc,.slice xB xd xe,.slice xX xl xq],.agg #[.int .i64 1,.int .i64 (u:Int),.string ys,.bool yn,.slice yA ya yc,.slice yB yd ye,.slice yX yl yq]] w fun e w'=>e=.returned (.bool (dJ och b (.var v) (.var u)))/\uN och nm B h U G c f L t b S Mt (.var v) (.var u) w':=by
 have M:dJ och b (.var v) (.var u)=true:=by unfold Tm.var;rw[gd,if_pos rfl,if_pos rfl]
 rw[M];have O:=zH g;by_cases N:v=u
 ·subst N;clear g d a C D A n m;go_enter func58,ntmps58;go_wp2_with fail;go_ret;exact⟨rfl,b,[],Mt,O.o.below (ax w _ _),fun _=>.inl ⟨rfl,rfl,rfl,.inl rfl⟩⟩
 ·have V:((v:Int)==(u:Int))=false:=zL (by omega);obtain⟨j,i,r,o,I,F,l,k,p,P⟩:∃ j i:Nat,min (v:Int) (u:Int)=(j:Int)/\max (v:Int) (u:Int)=(i:Int)/\j<i/\i<nm/\b j=none/\b i=none/\Tm.var j∈L/\(((Tm.var v)=.var i/\Tm.var u=.var j)\/((Tm.var v)=.var j/\Tm.var u=.var i)):=by
   by_cases h:v<u
   ·exact⟨v,u,by omega,by omega,h,X,d,a,n,.inr ⟨rfl,rfl⟩⟩
   ·exact⟨u,v,by omega,by omega,by omega,Y,a,d,m,.inl ⟨rfl,rfl⟩⟩
  have T:Yd (∀ W,zZ w W->Calls prog 82 #[zY U,.int .i64 (v:Int),.int .i64 (u:Int)] W fun e w'=>e=.returned (.bool true)/\Yd (uN och nm B h U G c f L t b S Mt (.var v) (.var u) w')):=fun W E=>by
   refine (qh C J D A y (O.o.below E) r o I F l k p).mono ?_;rintro e w' ⟨rfl,q⟩;refine⟨rfl,_,[],Mt,q,fun _=>.inr (.inl ⟨i,.var j,k,P,fun _=>lV l (by omega),fun z e=>?_,rfl,rfl,rfl⟩)⟩;have:=iI e;omega
  clear g d a C D A n m r o l k p P;go_enter func58,ntmps58;go_wp2_with fail;refine (T.o _ (ax w _ _)).mono ?_;rintro e w1 ⟨rfl,Q⟩;go_wp2_with fail;go_ret;exact⟨rfl,Q.o⟩
theorem xF {och:Bool} {nm B h U G c:Nat} {f:Nat->Option Tm} {L:List Tm} {n:World} {b:Int->Option Tm} {S Mt:List (Tm×Tm)} {w:World} {Bl:List Nat} (q:kg nm L) (t:nm<=1000000) (I:kX L b) (F:∀ c x,f c=some x->c∈Bl) (p:Bl.length<=1000000) (g:UV och nm B h U G c f L n b S Mt w) {v:Nat} (V:v<nm) (d:b v=none) {y:Tm} {E:List Value} (o:cU (PT eo n) f w y E) (k:y∈L) (a:∀ u,y≠.var u) (xs:ByteArray) (xn:Bool) (xA:Option Addr) (xa xc:Nat) (xB:Option Addr) (xd xe:Nat) (xX:Option Addr) (xl xq:Nat):
 Calls prog 58 #[.pointer (some ⟨U,0,none⟩),.agg #[.int .i64 1,.int .i64 (v:Int),.string xs,.bool xn,.slice xA xa xc,.slice xB xd xe,.slice xX xl xq],.agg E.toArray] w fun e w'=>e=.returned (.bool (dJ och b (.var v) y))/\uN och nm B h U G c f L n b S Mt (.var v) y w':=by
 obtain⟨C,yv,ys,yn,yA,ya,yc,yB,yd,ye,yX,yl,yq,rfl⟩:=o.form;obtain⟨k_,Z,s_,n_,D,A_,B_,Ar,cp,cx,j,m,-⟩:=o.inv;simp only[List.cons.injEq,Value.int.injEq,true_and]at m;obtain⟨rfl,-⟩:=m;have J:C≠1:=fun e=>a Z (by subst j;exact aK (q.1.2 _ k).1 e);have i:dJ och b (.var v) y=!(och&&df b v y):=by subst j;unfold Tm.var;rw[gd,if_pos rfl,if_neg J]
 have N:=zH g;have O:Yd (∀ W,zZ w W->Calls prog 83 #[zY U,.int .i64 (v:Int),.agg (zX C yv ys yn yA ya yc yB yd ye yX yl yq).toArray] W fun e w'=>e=.returned (.bool (dJ och b (.var v) y))/\Yd (uN och nm B h U G c f L n b S Mt (.var v) y w')):=fun W l=>by
  refine (oS q t I F p (N.o.below l) V d k (o.stay (.of_below l)) fun z e=>absurd e (a z)).mono ?_;rintro e w' ⟨rfl,X,Y⟩;refine⟨by rw[i],?_⟩;cases ho:och&&df b v y with
  |true=>exact⟨b,[],Mt,X ho,fun A=>by rw[i,ho]at A;cases A⟩
  |false=>
   refine⟨_,[],Mt,Y ho,fun A=>.inr (.inl ⟨v,y,d,.inl ⟨rfl,rfl⟩,fun P Q=>?_,fun z e=>absurd e (a z),rfl,rfl,rfl⟩)⟩;rw[P,eS Q]at ho;cases ho
 have T:(C==1)=false:=zL J;clear g d q I F o k a j i;generalize dJ och b (.var v) y=r at*;go_enter func58,ntmps58;go_wp2_with fail;refine (O.o _ (ax w _ _)).mono ?_;rintro e w1 ⟨rfl,M⟩;go_wp2_with fail;go_ret;exact⟨rfl,M.o⟩
theorem uC {och:Bool} {nm B h U G c:Nat} {f:Nat->Option Tm} {L:List Tm} {n:World} {b:Int->Option Tm} {S Mt:List (Tm×Tm)} {w:World} {Bl:List Nat} (t:kg nm L) (y:nm<=1000000) (F:kX L b) (E:∀ c x,f c=some x->c∈Bl) (q:Bl.length<=1000000) (g:UV och nm B h U G c f L n b S Mt w) {v:Nat} (T:v<nm) (d:b v=none) {x:Tm} {p:List Value} (o:cU (PT eo n) f w x p) (j:x∈L) (a:∀ u,x≠.var u) (ys:ByteArray) (yn:Bool) (yA:Option Addr) (ya yc:Nat) (yB:Option Addr) (yd ye:Nat) (yX:Option Addr) (yl yq:Nat):
 Calls prog 58 #[.pointer (some ⟨U,0,none⟩),.agg p.toArray,.agg #[.int .i64 1,.int .i64 (v:Int),.string ys,.bool yn,.slice yA ya yc,.slice yB yd ye,.slice yX yl yq]] w fun e w'=>e=.returned (.bool (dJ och b x (.var v)))/\uN och nm B h U G c f L n b S Mt x (.var v) w':=by
 obtain⟨C,xv,xs,xn,Z,xa,xc,xB,xd,xe,xX,xl,xq,rfl⟩:=o.form;obtain⟨k_,Y,s_,n_,D,A_,B_,Ar,cp,p,k,m,-⟩:=o.inv;simp only[List.cons.injEq,Value.int.injEq,true_and]at m;obtain⟨rfl,-⟩:=m;have I:C≠1:=fun e=>a Y (by subst k;exact aK (t.1.2 _ j).1 e);have i:dJ och b x (.var v)=!(och&&df b v x):=by subst k;unfold Tm.var;rw[gd,if_neg I,if_pos rfl]
 have M:=zH g;have N:Yd (∀ W,zZ w W->Calls prog 83 #[zY U,.int .i64 (v:Int),.agg (zX C xv xs xn Z xa xc xB xd xe xX xl xq).toArray] W fun e w'=>e=.returned (.bool (dJ och b x (.var v)))/\Yd (uN och nm B h U G c f L n b S Mt x (.var v) w')):=fun W l=>by
  refine (oS t y F E q (M.o.below l) T d j (o.stay (.of_below l)) fun z e=>absurd e (a z)).mono ?_;rintro e w' ⟨rfl,V,X⟩;refine⟨by rw[i],?_⟩;cases ho:och&&df b v x with
  |true=>exact⟨b,[],Mt,V ho,fun A=>by rw[i,ho]at A;cases A⟩
  |false=>
   refine⟨_,[],Mt,X ho,fun A=>.inr (.inl ⟨v,x,d,.inr ⟨rfl,rfl⟩,fun O P=>?_,fun z e=>absurd e (a z),rfl,rfl,rfl⟩)⟩;rw[O,eS P]at ho;cases ho
 have Q:(C==1)=false:=zL I;clear g d t F E o j a k i;generalize dJ och b x (.var v)=r at*;go_enter func58,ntmps58;go_wp2_with fail;refine (N.o _ (ax w _ _)).mono ?_;rintro e w1 ⟨rfl,J⟩;go_wp2_with fail;go_ret;exact⟨rfl,J.o⟩
theorem uN.same {och:Bool} {nm B h U G c:Nat} {f:Nat->Option Tm} {L:List Tm} {a:World} {b:Int->Option Tm} {S Mt:List (Tm×Tm)} {w:World} (g:UV och nm B h U G c f L a b S Mt w) {x y:Tm} {w':World} (d:zZ w w') (e:dJ och b x y=true->x=y\/(x,y)∈Mt\/((∀ v,x≠.var v)/\x.args=[]/\x.hd y=true)):uN och nm B h U G c f L a b S Mt x y w':=
 ⟨b,[],Mt,g.below d,fun q=>.inl ⟨rfl,rfl,rfl,e q⟩⟩
theorem sD {och:Bool} {b:Int->Option Tm} {x y:Tm} (g:x.fine) (h:y.fine) (c:∀ u,x≠.var u) (d:∀ u,y≠.var u):dJ och b x y=x.hd y:=by
 obtain⟨k,v,s,n,f⟩:=x;obtain⟨k2,i,l,j,a⟩:=y;rw[gd,if_neg (fun e=>c v (aK g e)),if_neg (fun e=>d i (aK h e))]
theorem Cz {k v:Int} {s:ByteArray} {n:LN} {args:List Tm} {k2 v2:Int} {s2:ByteArray} {n2:LN} {args2:List Tm}:(Tm.mk k v s n args).hd (.mk k2 v2 s2 n2 args2)=decide (k=k2/\s.toList=s2.toList/\args.length=args2.length/\(k=2->ik n n2=true)):=rfl
theorem xE {och:Bool} {nm B h U G c:Nat} {f:Nat->Option Tm} {L:List Tm} {Q:World} {b:Int->Option Tm} {S Mt:List (Tm×Tm)} {w:World} (hU:kg nm L) (g:UV och nm B h U G c f L Q b S Mt w) {x y:Tm} {cx cy:List Value} (hx:cU (PT eo Q) f w x cx) (hy:cU (PT eo Q) f w y cy) (a0:x∈L) (a1:y∈L) (D:∀ u,x≠.var u) (J:∀ u,y≠.var u) (F:x.args=[]\/x.hd y=false):
 Calls prog 58 #[.pointer (some ⟨U,0,none⟩),.agg cx.toArray,.agg cy.toArray] w fun e w'=>e=.returned (.bool (dJ och b x y))/\uN och nm B h U G c f L Q b S Mt x y w':=by
 have fx:=(hU.1.2 _ a0).1;have fy:=(hU.1.2 _ a1).1;have N:=sD (och:=och) (b:=b) fx fy D J;rw[N];have a:Yd (∀ w',zZ w w'->uN och nm B h U G c f L Q b S Mt x y w'):=fun w' hb=>uN.same g hb fun q=>by
  rw[N]at q;rcases F with t|t
  ·exact .inr (.inr ⟨D,t,q⟩)
  ·rw[t]at q;cases q
 have O:=zH D;have P:=zH J;have d:=zH fx;have j:=zH fy;have m:=zH F;clear g N F D J hU a0 a1 fx fy;cases hx with
 |mk k v s n args A C Ar a5 cs hk hv hs hA hC hn Y hm hr ha=>
 cases hy with
 |mk k2 v2 s2 n2 args2 A2 C2 a3 T b5 a8 b4 b3 V X b1 E b0 b2 a6=>
 have dL:Yd (∀ W,zZ w W->Calls prog 84 #[.agg #[.bool n.neg,A,C],.agg #[.bool n2.neg,A2,C2]] W fun e w'=>e=.returned (.bool (ik n n2))/\Yd (zZ w w')):=fun W hW=>by
  refine (mC n n2 A C A2 C2 hA.sl hC.sl V.sl X.sl W hW).mono ?_;rintro e w' ⟨rfl,hb⟩;exact⟨rfl,hW.trans (hb.mono hW.size)⟩
 obtain⟨A_,q1,rfl,-⟩:=hA;obtain⟨C_,q2,rfl,-⟩:=hC;obtain⟨a2,q3,rfl,-⟩:=V;obtain⟨a4,q4,rfl,-⟩:=X;clear hk hv hs hn Y hm hr ha a8 b4 b3 b1 E b0 b2 a6;have a7:k≠1:=fun e=>O.o v (aK d.o e);have Z:k2≠1:=fun e=>P.o v2 (aK j.o e);have b6:(k==1)=false:=zL a7;have b7:(k2==1)=false:=zL Z;have i:=zH (Cz (k:=k) (v:=v) (s:=s) (n:=n) (args:=args) (k2:=k2) (v2:=v2) (s2:=s2) (n2:=n2) (args2:=args2));have l:=zH (ax w (.cells #[.int .i64 k,.int .i64 v,.string s,.bool n.neg,.slice A_ n.num.length q1,.slice C_ n.den.length q2,.slice Ar args.length a5] 27) (.cells #[.int .i64 k2,.int .i64 v2,.string s2,.bool n2.neg,.slice a2 n2.num.length q3,.slice a4 n2.den.length q4,.slice a3 args2.length T] 27));clear O P;generalize hr:(Tm.mk k v s n args).hd (.mk k2 v2 s2 n2 args2)=r at*;have HR:=zH hr;clear hr;by_cases I:k=k2
 ·subst I;by_cases o:k=2
  ·subst o;have e:r=ik n n2:=by
    rw[i.o];have t:=d.o;have h2:=j.o;rw[Tm.fine]at t h2;have r1:=(bU t.2.1 (by decide)).2.1 rfl;have r2:=(bU h2.2.1 (by decide)).2.1 rfl;rw[r1.1,r2.1,r1.2.1,r2.2.1];simp
   subst e;generalize ik n n2=r at*;clear i HR d j m;go_enter func58,ntmps58;go_wp2_with fail;refine (dL.out _ l.o).mono ?_;rintro e w1 ⟨rfl,HF⟩;go_wp2_with fail;go_ret;exact⟨rfl,a.o _ HF.o⟩
  ·have b8:(k==2)=false:=zL o;by_cases z:k=5
   ·subst z;have M:r=false:=by
     rcases m.o with h|h
     ·have t:=d.o;rw[Tm.fine]at t;have h2:args=[]:=h;rw[h2]at t;rcases al t.2.1 with ⟨h,_⟩|⟨_,_,_,_,h|h|h|h⟩<;>simp at h
     ·exact h
    subst M;have hd:=i.o;clear i HR d j m dL;by_cases p:s.toList=s2.toList
    ·have a9:args.length≠args2.length:=fun e=>by
      have:=of_decide_eq_false hd.symm;exact this ⟨rfl,p,e,fun h=>absurd h (by decide)⟩
     have c4:(s.toList==s2.toList)=true:=by rw[p];exact beq_self_eq_true _
     have c2:((args.length:Int)==(args2.length:Int))=false:=zL (by omega);clear hd p a9;go_enter func58,ntmps58;go_wp2_with fail;go_ret;exact⟨rfl,a.o _ l.o⟩
    ·have c3:(s.toList==s2.toList)=false:=zL p;clear hd p;go_enter func58,ntmps58;go_wp2_with fail;go_ret;exact⟨rfl,a.o _ l.o⟩
   ·have c0:(k==5)=false:=zL z;have e:r=(s.toList==s2.toList):=by
     rw[i.o,fN d.o z,fN j.o z,Bool.eq_iff_iff,decide_eq_true_iff,beq_iff_eq];exact⟨fun h=>h.2.1,fun h=>⟨rfl,h,rfl,fun h=>absurd h o⟩⟩
    subst e;clear i HR d j m dL;go_enter func58,ntmps58;go_wp2_with fail;go_ret;exact⟨rfl,a.o _ l.o⟩
 ·have c1:(k==k2)=false:=zL I;have M:r=false:=by
   rw[i.o];exact decide_eq_false fun h=>I h.1
  subst M;clear i HR d j m dL;go_enter func58,ntmps58;go_wp2_with fail;go_ret;exact⟨rfl,a.o _ l.o⟩
structure GS (B h U:Nat) (st:Value) (p md m1 m2:Nat) (X Y xarr yarr:Array Value) (xb yb:Nat) (w:World) (n:Nat) (W:World):Prop where
 ns:bu W p m1 m2 n
 u:ah W U 106 #[.pointer (some ⟨h,0,none⟩),.bool false,.pointer (some ⟨p,0,none⟩),.map (some md),.slice none 0 0,st]
 x:ah W w.heap.size 27 X
 y:ah W (w.heap.size+1) 27 Y
 xr:ah W xb 27 xarr
 yr:ah W yb 27 yarr
 mm:W.heap[md]?=some (.map #[] 0)
 n1:¬KN m1 m2 md
 fr:aD [some 106,none] w W
 be:Below B w W
theorem GS.below {B h U:Nat} {j:Value} {p i e f:Nat} {X Y b c:Array Value} {k l:Nat} {w:World} {n:Nat} {W d:World} (g:GS B h U j p i e f X Y b c k l w n W) (m:B<=W.heap.size) (a:zZ W d):GS B h U j p i e f X Y b c k l w n d:=
 ⟨g.ns.below a,g.u.to a,g.x.to a,g.y.to a,g.xr.to a,g.yr.to a,(a.block _ (an g.mm)).trans g.mm,g.n1,g.fr.trans (aD.of_below a),g.be.trans (a.mono m)⟩
theorem GS.drew {B h U:Nat} {f:Value} {p e c d:Nat} {X Y a b:Array Value} {i j:Nat} {w:World} {n:Nat} {W:World} (g:GS B h U f p e c d X Y a b i j w n W):GS B h U f p e c d X Y a b i j w n W.drew:=
 ⟨g.ns.drew,g.u.drew,g.x.drew,g.y.drew,g.xr.drew,g.yr.drew,g.mm,g.n1,g.fr.drew,g.be.drew⟩
theorem GS.name {B h U:Nat} {o:Value} {p l f i:Nat} {X Y a b:Array Value} {q r:Nat} {w:World} {n m:Nat} {W j:World} (g:GS B h U o p l f i X Y a b q r w n W) (c:ag (KN f i) W j) (t:bu j p f i m) (x:B<=f/\B<=i) (v:B<=W.heap.size):GS B h U o p l f i X Y a b q r w m j:=
 have d:aD [none] W j:=g.ns.frame c (by decide)
 ⟨t,g.u.frT d (by decide),g.x.frT d (by decide),g.y.frT d (by decide),g.xr.frT d (by decide),g.yr.frT d (by decide),(c.block _ (an g.mm) g.n1).trans g.mm,g.n1,g.fr.trans (d.mono (by decide)),⟨c.os.trans g.be.os,c.tape.trans g.be.tape,c.output.trans g.be.output,zC g.be.size c.size,fun k h=>(c.block k (by omega) (fun e=>by rcases e with rfl|rfl<;>omega)).trans (g.be.block k h)⟩⟩
theorem GS.key {B h U:Nat} {x:Value} {p v r t:Nat} {X Y a b:Array Value} {y z:Nat} {w:World} {n K:Nat} {W:World} {A C:Value} (g:GS B h U x p v r t X Y a b y z w n W/\B<=W.heap.size) (q:ah W K 134 #[A,C]) (hK:w.heap.size<=K) (m:B<=w.heap.size) (e f:Value):
 (GS B h U x p v r t X Y a b y z w n ((W.setCell ⟨K,0,none⟩ e).setCell ⟨K,1,none⟩ f)/\B<=((W.setCell ⟨K,0,none⟩ e).setCell ⟨K,1,none⟩ f).heap.size)/\ah ((W.setCell ⟨K,0,none⟩ e).setCell ⟨K,1,none⟩ f) K 134 #[e,f]:=by
 have d:=q.set_ 0 e;have j:=d.set_ 1 f;simp only[L1]at d j;have c:aD [some 134] W ((W.setCell ⟨K,0,none⟩ e).setCell ⟨K,1,none⟩ f):=((aD.refl _ _).setCell (p:=⟨K,0,none⟩) q (by decide) _).setCell (p:=⟨K,1,none⟩) d (by decide) _;obtain⟨g,F⟩:=g;refine⟨⟨⟨g.ns.frT c (by decide) (by decide) (by decide),g.u.frT c (by decide),g.x.frT c (by decide),g.y.frT c (by decide),g.xr.frT c (by decide),g.yr.frT c (by decide),c _ _ g.mm (eE.map (by decide)),g.n1,?_,(g.be.setCell (p:=⟨K,0,none⟩) (zC m hK) _).setCell (p:=⟨K,1,none⟩) (zC m hK) _⟩,by simpa using F⟩,j⟩;intro k o i E;have D:=g.fr k o i E;have l:k≠K:=by have:=an i;omega
 exact (Below.heap_setCell _ ⟨K,1,none⟩ f k l).trans ((Below.heap_setCell _ ⟨K,0,none⟩ e k l).trans D)
theorem GS.drewN {B h U:Nat} {i:Value} {p f d e:Nat} {X Y a b:Array Value} {j k:Nat} {w:World} {n K:Nat} {W:World} {cs:Array Value} (g:(GS B h U i p f d e X Y a b j k w n W/\B<=W.heap.size)/\ah W K 134 cs) (q:Nat):(GS B h U i p f d e X Y a b j k w n (W.drewN q)/\B<=(W.drewN q).heap.size)/\ah (W.drewN q) K 134 cs:=
 have c:zZ W (W.drewN q):=aN zB q
 ⟨⟨g.1.1.below g.1.2 c,g.1.2⟩,g.2.to c⟩
structure PS (B h U:Nat) (X Y xarr yarr:Array Value) (xb yb:Nat) (w:World) (N M st:Value) (n:Nat) (zs:List Value) (W:World):Prop where
 u:US W U h N M st
 x:ah W w.heap.size 27 X
 y:ah W (w.heap.size+1) 27 Y
 xr:ah W xb 27 xarr
 yr:ah W yb 27 yarr
 row:W.ownsRow B 101 14 st n zs
 fr:aD [some 106,some 101,none] w W
 be:Below B w W
 sz:B<=W.heap.size
theorem PS.below {B h U:Nat} {X Y b c:Array Value} {f i:Nat} {w:World} {N M e:Value} {n:Nat} {j:List Value} {W d:World} (g:PS B h U X Y b c f i w N M e n j W) (a:zZ W d):PS B h U X Y b c f i w N M e n j d:=
 ⟨ah.to g.u a,g.x.to a,g.y.to a,g.xr.to a,g.yr.to a,ay (ts:=[]) g.row (aD.of_below a) (by simp),g.fr.trans (aD.of_below a),g.be.trans (a.mono g.sz),zC g.sz a.size⟩
theorem PS.drew {B h U:Nat} {X Y a b:Array Value} {d e:Nat} {w:World} {N M c:Value} {n:Nat} {f:List Value} {W:World} (g:PS B h U X Y a b d e w N M c n f W):PS B h U X Y a b d e w N M c n f W.drew:=g.below zB.drew
theorem PS.push {B h U:Nat} {X Y d e:Array Value} {r t:Nat} {w:World} {N M q c:Value} {n m:Nat} {F j:List Value} {W b:World} (g:PS B h U X Y d e r t w N M q n F W) (C:B<=U) (l:W.grownBy b q.ownBlock) (E:b.ownsRow B 101 14 c m j):
 (ah b U 106 #[.pointer (some ⟨h,0,none⟩),.bool false,N,M,.slice none 0 0,q]/\ah b w.heap.size 27 X/\ah b (w.heap.size+1) 27 Y/\ah b r 27 d/\ah b t 27 e)/\PS B h U X Y d e r t w N M c m j (b.setCell ⟨U,5,none⟩ c):=by
 have i:aD [some 101] W b:=(aD.refl _ _).grown l fun k o=>by
  obtain⟨A,f,D⟩:=Lib.ownsRow_kind g.row k o;exact⟨A,_,f,D,by decide⟩
 have u1:=ah.frT g.u i (by decide);have u2:=u1.set_ 5 c;simp only[L1]at u2;have a:aD [some 106] b (b.setCell ⟨U,5,none⟩ c):=(aD.refl _ _).setCell (p:=⟨U,5,none⟩) u1 (by decide) _;have y:=g.x.frT i (by decide);have z:=g.y.frT i (by decide);have v:=g.xr.frT i (by decide);have x:=g.yr.frT i (by decide);exact⟨⟨u1,y,z,v,x⟩,⟨u2,y.frT a (by decide),z.frT a (by decide),v.frT a (by decide),x.frT a (by decide),ay E a (by decide),(g.fr.trans (i.mono (by decide))).trans (a.mono (by decide)),(g.be.grown l g.sz (fun k o=>(g.row.lt k o).1)).setCell (p:=⟨U,5,none⟩) C _,zC g.sz (zC l.size (by simp))⟩⟩
def rp (pr:Nat->List Value) (l g:Nat):List Value:=((List.range (l-g)).map fun q=>pr (l-1-q)).flatten
theorem pQ (a:Nat->List Value) {l g:Nat} (h:g<l):rp a l g=rp a l (g+1)++a g:=by
 unfold rp;rw[show l-g=(l-(g+1))+1 by omega,List.range_succ,List.map_append,List.flatten_append];simp
 congr 1
 omega
theorem wG:(prog.info? 101).map (fun i=>(i.zero,i.size,i.bytes))=some (some (.agg (zt++zt).toArray),14,224):=by kernel_rfl
theorem C4 {w:World} {b1 c b2 f:Nat} {n o:Array Value} {p q:TypeId} (g:b1≠b2) (t:ah w b1 p n) (k2:ah w b2 q o):(binOp .eql 109 (.pointer (some ⟨b1,c,none⟩)) (.pointer (some ⟨b2,f,none⟩))).run prog w=.ok (.bool false) w:=by
 have r:prog.underlying 109=some (.pointer 27):=by kernel_rfl
 have b:(prog.info? 27).map (fun i=>i.size)=some 7:=by kernel_rfl
 rcases hi:prog.info? 27 with _|j
 ·rw[hi]at b;cases b
 ·rw[hi]at b;have k:j.size≠0:=by
   have:j.size=7:=zI b;omega
  have a:(⟨b1,c,none⟩:Addr)≠⟨b2,f,none⟩:=fun e=>g (congrArg Addr.block e);have l:w.heap[(⟨b1,c,none⟩:Addr).block]?=some (Obj.cells n p (0,0)):=t;have m:w.heap[(⟨b2,f,none⟩:Addr).block]?=some (Obj.cells o q (0,0)):=k2;have h:∀ d:Nat,(Op.equalIn (d+1) 109 (.pointer (some ⟨b1,c,none⟩)) (.pointer (some ⟨b2,f,none⟩))).run prog w=.ok false w:=fun d=>by
   simp[Op.equalIn,run_underlying r,sizeOf,typeInfo,hi,k,run_sameAddr_other w a l m]
  simp only[binOp];simp[Op.equal,Op.maxDepth,h 9999]
end Go.Proofs.YtlhojoefhannnaaGreat
